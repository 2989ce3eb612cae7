/- mudlarklaw23.ShardParts: its walk. -/
import Derived.Test.YtohpeoakdgckfaaGreatPt
set_option maxHeartbeats 8000000
set_option maxRecDepth 10000
namespace Go.Proofs.YtohpeoakdgckfaaGreat
open Go.RowKit Sx
def fs3 (b20 b24:Nat):List FileV:=[⟨[97],.slice (some ⟨b20,0,none⟩) 5 5,[97,98,97,98,10]⟩,⟨[98,46,103,111],.slice none 0 0,[]⟩,⟨[99,47,100],.slice (some ⟨b24,0,none⟩) 5 5,[10,10,97,98,99]⟩]
theorem z9x (r:Hp) (v:Value) (xs:List PartV) (hv:Parts r v xs) (hb:(bodyB (xs.map pOf)).length<=900000) (hn:xs.length<=1000000):Tri Tryz.prog r 21 [v] [] fun w H => ∃ a c B,w = .tuple #[.slice a (B:List UInt8).length c,.int .i64 0]/\H=[U8R (.slice a B.length c) B]/\B.length<=1000000:=by
 refine (ze1 r v xs hv (by omega) hn).mono ?_
 rintro w H ⟨a,c,rfl,rfl⟩
 refine ⟨a,c,_,rfl,rfl,?_⟩
 have:=z47 (xs.map pOf)
 omega
theorem zba {r:Hp} : ∀ {Z:List PartV},(∀ x∈Z,U8S r x.val x.data)->(Z.flatMap encPa).all one?=true
 | [],_=>rfl
 | z::Z,h=>by
  rw [List.flatMap_cons,List.all_append,zba fun x hx=>h x (List.mem_cons_of_mem _ hx),Bool.and_true]
  have h1:=(h z (by simp)).one
  simp only [encPa,List.all_cons,List.all_nil,h1,Bool.and_true]
  rfl
theorem zbb {FS:List FileV} {B:Nat} (h:sizeF FS<=B) (n:Nat):sizeF (FS.take n)<=B:=by
 induction FS generalizing n B with
 | nil=>simpa using h
 | cons f FS ih =>
  cases n with
  | zero=>exact Nat.zero_le _
  | succ n =>
   have h1:sizeF (f::FS)=sizeF [f]+sizeF FS:=by simp [sizeF]
   have h2:sizeF (f::FS.take n)=sizeF [f]+sizeF (FS.take n):=by simp [sizeF]
   rw [List.take_succ_cons,h2]
   have:=ih (B:=sizeF FS) (Nat.le_refl _) n
   omega
theorem Files.take {r:Hp} {v:Value} {FS:List FileV} (h : ∀ f∈FS,U8S r f.val f.data) (n:Nat) (hv:Els r 2 encF v (FS.take n)):Files r v (FS.take n):=⟨hv,fun f hf=>h f (List.mem_of_mem_take hf)⟩
theorem wrapU (k:Nat):IntKind.u8.wrap (k:Int)=(((UInt8.ofNat k).toNat:Nat):Int):=by simp [IntKind.wrap,IntKind.bits,IntKind.signed]
theorem Parts.mono {r r':Hp} {v:Value} {Z:List PartV} (h:Parts r v Z) (hr:sub r r'):Parts r' v Z:=⟨h.1.mono hr,fun x hx=>(h.2 x hx).mono hr⟩
theorem zrb (Z:List PartV) (i:Nat) (t:UInt8) (u v:Value) (d e:List UInt8) (h:i<Z.length):((Z.set i ⟨t,u,d⟩).flatMap encPa).set (i*2+1) v=(Z.set i ⟨t,v,e⟩).flatMap encPa:=by
 rw [zlj _ i v e (by rw [List.length_set];exact h),List.set_set]
 congr 2
 rw [List.getD_eq_getElem?_getD,List.getElem?_set_self h]
 rfl
theorem zok {l:List UInt8} {n:Nat} (i:Int):(u8s l).set n (.int .u8 (IntKind.u8.wrap i))=u8s (l.set n (UInt8.ofNat (i % 256).toNat)):=by
 have:IntKind.u8.wrap i=((UInt8.ofNat (i % 256).toNat).toNat:Nat):=by simp [IntKind.wrap,IntKind.bits,IntKind.signed];omega
 rw [this]
 unfold u8s
 rw [List.map_set]
theorem zol {v:Value} {l:List UInt8} {k:Nat} {b:UInt8}:RowC 5 1 v l.length (u8s (l.set k b))=U8R v (l.set k b):=by
 unfold U8R
 rw [List.length_set]
theorem zas (r:Hp):Tri Tryz.prog r 5 [] [] fun w H=>w = .bool true/\H=[]:=by
 refine Tri.free2 fun R HR=>?_
 refine ae Tryz.func5 Tryz.ntmps5 ?_
 repeat' (first|((with_reducible apply z5e (d:=some 20));exact ty_el;exact z03;rfl;rfl;rfl;(exact qcs);rfl;intro b20;(refine apk ?_))|((with_reducible apply z5e (d:=some 24));exact ty_el;exact z03;rfl;rfl;rfl;(exact qcs);rfl;intro b24;(refine apk ?_))|((with_reducible apply z5e (d:=some 27));exact ty_el;exact z03;rfl;rfl;rfl;(exact qcs);rfl;intro b27;(refine apk ?_))|((with_reducible apply zlf);exact ty_el;kernel_rfl;rfl;(exact atk);(refine apk ?_))|refine aw0 ?_|(refine ap2 ?_ ?_<;>try intro h)|refine aw1 ?_|(refine abx ?_;intro bb)|(refine abz ?_;intro bz)|(refine ahv ?_;intro v' hv')|(refine aac ?_;intro ac cc)|refine aw2 ?_|(refine ap4 ?_ ?_<;>try intro h)|apply True.intro)
 refine z13 (A:=pt b20 (.cells [.int .u8 97,.int .u8 98,.int .u8 97,.int .u8 98,.int .u8 10].toArray 5 (5,6))) atk fun r1 g1 hr1 hg1 hA1=>?_
 refine z13 (A:=pt b24 (.cells [.int .u8 10,.int .u8 10,.int .u8 97,.int .u8 98,.int .u8 99].toArray 5 (5,6))) atk fun r2 g2 hr2 hg2 hA2=>?_
 refine z13 (A:=pt b27 (.cells [.string (bs [97]),.slice (some ⟨b20,0,none⟩) 5 5,.string (bs [98,46,103,111]),.slice none 0 0,.string (bs [99,47,100]),.slice (some ⟨b24,0,none⟩) 5 5].toArray 45 (0,0))) atk fun r3 g3 hr3 hg3 hA3=>?_
 obtain ⟨FS,hFS,hFl,hFz⟩ : ∃ FS:List FileV,Files r3 (.slice (some ⟨b27,0,none⟩) 3 3) FS/\FS.length=3/\sizeF FS<=100:=by
  have e1:r3 b20=some (.cells [.int .u8 97,.int .u8 98,.int .u8 97,.int .u8 98,.int .u8 10].toArray 5 (5,6)):=hr3 _ _ (hr2 _ _ (hg1 _ _ (by rw [hA1];exact z0h)))
  have e2:r3 b24=some (.cells [.int .u8 10,.int .u8 10,.int .u8 97,.int .u8 98,.int .u8 99].toArray 5 (5,6)):=hr3 _ _ (hg2 _ _ (by rw [hA2];exact z0h))
  have e3:r3 b27=_:=hg3 _ _ (by rw [hA3];exact z0h)
  refine ⟨fs3 b20 b24,⟨⟨fun _=>rfl,Sl.lit (n:=3) e3 rfl (by simp [maxLen])⟩,fun f hf=>?_⟩,rfl,by simp [fs3,sizeF]⟩
  rcases List.mem_cons.1 hf with rfl|hf
  · exact Sl.lit (n:=5) e1 rfl (by simp [maxLen])
  rcases List.mem_cons.1 hf with rfl|hf
  · exact Sl.nil _ _
  obtain rfl:=List.mem_singleton.1 hf
  exact Sl.lit (n:=5) e2 rfl (by simp [maxLen])
 clear hA1 hA2 hA3 hg1 hg2 hg3
 obtain ⟨hFe,hFb⟩:=hFS
 refine z04 (fun gm t H' => ∃ n:Nat,gm=4+1 - n/\(n<=4)/\(∃ G,Takes [] H' G)/\Sls t 205 [(1,.slice (some ⟨b27,0,none⟩) 3 3),(2,.int .i64 n)]) _ ⟨0,rfl,by omega,⟨[],atks⟩,asls⟩ ?_
 rintro gm t H' ⟨n,rfl,hn,⟨G,hp⟩,hs'⟩
 revert t;refine z06 ?_;iterate 203 intro uu'
 refine z01 hp ?_;clear hp
 by_cases hlt:n<4
 · obtain ⟨B,hBl,hmk⟩:=zsq (FS.take n) (Nat.le_trans (zbb hFz n) (by omega))
   obtain ⟨ps,hb1,hb2,hget⟩:=rgetU B hBl
   have hcut:List.take ((n:Int).toNat - Int.toNat 0) (List.drop (Int.toNat 0) FS)=FS.take n:=by simp
   have hFz2:=zbb hFz n
   have hsm : ∀ f∈FS.take n,f.path.length<=140737488351232/\f.data.length<=140737488351232:=fun f hf=>by have:=z4x hf;omega
   repeat' (first|((with_reducible apply zja);rfl;(exact qael);(exact qbd);(omega);intro v' hv';(refine apk ?_))|(rw [hcut] at hv')|(refine acl Tryz.func11 ?_;refine acr (hmk _ _ (Files.take hFb n hv')) ?_;rintro v' H' ⟨a1,c1,e1,rfl,rfl⟩;refine apl ?_)|((with_reducible apply z12 (A:=U8R (.slice a1 B.length c1) B));(with_reducible (exact atk));intro r4 g4 hr4 hg4 hA4)|(refine acl Tryz.func20 ?_;refine acr (hget _ _ (hA4.sl hg4)) ?_;rintro v' H' ⟨a2,c2,e2,rfl,rfl⟩;refine apl ?_)|((with_reducible apply z12 (A:=PrtC (.slice a2 ps.length c2) ps));(with_reducible (exact atk));intro r5 g5 hr5 hg5 hA5;have hFe5:=(hFe.mono hr4).mono hr5)|(refine acl Tryz.func4 ?_;refine acr (z0p _ _ B _ ((hA4.sl hg4).mono hr5) (by omega)) ?_;rintro v' H' ⟨rfl,rfl⟩;refine apl ?_)|(refine acl Tryz.func3 ?_;refine acr (zao _ _ (FS.take n) (Files.take (fun f hf=>((hFb f hf).mono hr4).mono hr5) n hv') hsm) ?_;rintro v' H' ⟨rfl,rfl⟩;refine apl ?_)|exact xf|refine aw0 ?_|(refine ap2 ?_ ?_<;>try intro h)|refine aw1 ?_|(refine abx ?_;intro bb)|(refine abz ?_;intro bz)|(refine ahv ?_;intro v' hv')|(refine aac ?_;intro ac cc)|refine aw2 ?_|(refine ap4 ?_ ?_<;>try intro h)|apply True.intro)
   obtain ⟨Z,hZ,hPZ⟩:=hA5
   have hP:Parts r5 (.slice a2 ps.length c2) Z:=zb2 hPZ hg5
   have hZl:Z.length=ps.length:=by rw [← hZ,List.length_map]
   have hbZ:(bodyB (Z.map pOf)).length<=300008:=by rw [hZ];exact hb1
   clear hZ hPZ hA4 hg4 hg5 hmk hget
   refine z04 (fun gm t H' => ∃ i:Nat,gm=ps.length+1 - i/\(i<=ps.length)/\(∃ G,Takes [] H' G)/\Sls t 205 [(1,.slice (some ⟨b27,0,none⟩) 3 3),(2,.int .i64 n),(5,.slice a2 ps.length c2),(7,.int .i64 i)]) _ ⟨0,rfl,Nat.zero_le _,⟨[],atks⟩,asls⟩ ?_
   rintro gm t H' ⟨i,rfl,hi,⟨G,hp⟩,hs'⟩
   revert t;refine z06 ?_;iterate 201 intro uu'
   refine z01 hp ?_;clear hp
   by_cases hil:i<ps.length
   · repeat' (first|exact xf|refine aw0 ?_|(refine ap2 ?_ ?_<;>try intro h)|refine aw1 ?_|(refine abx ?_;intro bb)|(refine abz ?_;intro bz)|(refine ahv ?_;intro v' hv')|(refine aac ?_;intro ac cc)|refine aw2 ?_|(refine ap4 ?_ ?_<;>try intro h)|apply True.intro)
     refine z04 (fun gm t H' => ∃ k:Nat,gm=ps.length+1 - k/\(k<=ps.length)/\(∃ G,Takes [] H' G)/\Sls t 205 [(1,.slice (some ⟨b27,0,none⟩) 3 3),(2,.int .i64 n),(5,.slice a2 ps.length c2),(7,.int .i64 i),(8,.int .i64 k)]) _ ⟨0,rfl,Nat.zero_le _,⟨[],atks⟩,asls⟩ ?_
     rintro gm t H' ⟨k,rfl,hk,⟨G,hp⟩,hs'⟩
     revert t;refine z06 ?_;iterate 200 intro uu'
     refine z01 hp ?_;clear hp
     by_cases hkl:k<ps.length
     · have hmi:Z.getD i default∈Z:=z0g (by omega)
       have hmk:Z.getD k default∈Z:=z0g (by omega)
       have hbi:=hP.2 _ hmi
       have hbk:=hP.2 _ hmk
       have hone:=zba hP.2
       have honek:(encPa (Z.getD k default)).all one?=true:=by have h1:=hbk.one;simp only [encPa,List.all_cons,List.all_nil,h1,Bool.and_true];rfl
       have hlen2:(Z.flatMap encPa).length=Z.length*2:=z2b hP.1.1 Z
       have hPe:=hP.1
       repeat' (first|((with_reducible apply z3t);exact ty_el;exact z03;intro bz;(refine apk ?_))|refine aw0 ?_|(refine ap2 ?_ ?_<;>try intro h)|refine aw1 ?_|(refine abx ?_;intro bb)|(refine abz ?_;intro bz)|(refine ahv ?_;intro v' hv')|(refine aac ?_;intro ac cc)|refine aw2 ?_|(refine ap4 ?_ ?_<;>try intro h)|apply True.intro)
       ((with_reducible refine z0u ?_);(with_reducible apply z0v (news:=Z.flatMap encPa));exact ty_el;exact z03;rfl;rfl;rfl;rfl;exact hP.1.2;(exact atk);exact hone;(unfold maxLen;omega);(omega);intro a3 c3;refine apm ?_)
       simp only [Nat.zero_add]
       repeat' (first|((with_reducible apply zhw);exact z08;rfl;rfl;rfl;(exact atk);exact honek;rfl;(omega);(refine apk ?_))|refine aw0 ?_|(refine ap2 ?_ ?_<;>try intro h)|refine aw1 ?_|(refine abx ?_;intro bb)|(refine abz ?_;intro bz)|(refine ahv ?_;intro v' hv')|(refine aac ?_;intro ac cc)|refine aw2 ?_|(refine ap4 ?_ ?_<;>try intro h)|apply True.intro)
       have hbz:=zpx (Z:=Z) (i:=i) (by omega)
       have hbzk:=zpx (Z:=Z) (i:=k) (by omega)
       have q1:(bodyB ((Z.set i (Z.getD k default)).map pOf)).length<=900000:=by have:=zgn Z i (Z.getD k default);omega
       have q2 : ∀ (t:UInt8) (v:Value) (d:List UInt8),d.length<=300010->(bodyB ((Z.set i ⟨t,v,d⟩).map pOf)).length<=900000:=fun t v d hd=>by
        have h1:=zgn Z i ⟨t,v,d⟩
        have h2:=zoa t d (by omega)
        have h3:partB (pOf ⟨t,v,d⟩)=partB (t,d):=rfl
        rw [h3] at h1
        omega
       simp only [Int.toNat_natCast,setPa Z i _ (show i<Z.length by omega)]
       (with_reducible refine z07 21 ?_);(with_reducible apply z05 (A:=RowC 50 2 (.slice a3 Z.length c3) Z.length ((Z.set i (Z.getD k default)).flatMap encPa)));(exact atk);intro r6 g6 hr6 hg6 hA6;(refine acl Tryz.func21 ?_;refine acr (z9x r6 _ _ (z6r (fun x hx=>(hP.2 x hx).mono hr6) (hbk.mono hr6) rfl hA6 hg6) q1 (by rw [List.length_set];omega)) ?_;rintro v' H' ⟨a4,c4,B4,rfl,rfl,hB4⟩;refine apl ?_)
       repeat' (first|((with_reducible apply sw_dropT (A:=RowC 50 2 (.slice a3 Z.length c3) Z.length ((Z.set i (Z.getD k default)).flatMap encPa)));(with_reducible (exact atk)))|((with_reducible apply z3t);exact ty_el;exact z03;intro bz;(refine apk ?_))|refine aw0 ?_|(refine ap2 ?_ ?_<;>try intro h)|refine aw1 ?_|(refine abx ?_;intro bb)|(refine abz ?_;intro bz)|(refine ahv ?_;intro v' hv')|(refine aac ?_;intro ac cc)|refine aw2 ?_|(refine ap4 ?_ ?_<;>try intro h)|apply True.intro)
       ((with_reducible refine z0u ?_);(with_reducible apply z0v (news:=Z.flatMap encPa));exact ty_el;exact z03;rfl;rfl;rfl;rfl;exact hP.1.2;(exact atk);exact hone;(unfold maxLen;omega);(omega);intro a5 c5;refine apm ?_)
       simp only [Nat.zero_add]
       repeat' (first|((with_reducible apply z7f);exact z08;rfl;rfl;(exact atk);rfl;(omega);(refine apk ?_))|refine aw0 ?_|(refine ap2 ?_ ?_<;>try intro h)|refine aw1 ?_|(refine abx ?_;intro bb)|(refine abz ?_;intro bz)|(refine ahv ?_;intro v' hv')|(refine aac ?_;intro ac cc)|refine aw2 ?_|(refine ap4 ?_ ?_<;>try intro h)|apply True.intro)
       simp only [Int.toNat_natCast,wrapU,zpw Z i _ (show i<Z.length by omega)]
       (with_reducible refine z07 21 ?_);(with_reducible apply z05 (A:=RowC 50 2 (.slice a5 Z.length c5) Z.length ((Z.set i ⟨UInt8.ofNat k,(Z.getD i default).val,(Z.getD i default).data⟩).flatMap encPa)));(exact atk);intro r6 g6 hr6 hg6 hA6;(refine acl Tryz.func21 ?_;refine acr (z9x r6 _ _ (z6r (z:=⟨UInt8.ofNat k,(Z.getD i default).val,(Z.getD i default).data⟩) (fun x hx=>(hP.2 x hx).mono hr6) (hbi.mono hr6) rfl hA6 hg6) (q2 _ _ _ (by omega)) (by rw [List.length_set];omega)) ?_;rintro v' H' ⟨a6,c6,B6,rfl,rfl,hB6⟩;refine apl ?_)
       repeat' (first|((with_reducible apply sw_dropT (A:=RowC 50 2 (.slice a5 Z.length c5) Z.length ((Z.set i ⟨UInt8.ofNat k,(Z.getD i default).val,(Z.getD i default).data⟩).flatMap encPa)));(with_reducible (exact atk)))|((with_reducible apply z3t);exact ty_el;exact z03;intro bz;(refine apk ?_))|refine aw0 ?_|(refine ap2 ?_ ?_<;>try intro h)|refine aw1 ?_|(refine abx ?_;intro bb)|(refine abz ?_;intro bz)|(refine ahv ?_;intro v' hv')|(refine aac ?_;intro ac cc)|refine aw2 ?_|(refine ap4 ?_ ?_<;>try intro h)|apply True.intro)
       ((with_reducible refine z0u ?_);(with_reducible apply z0v (news:=Z.flatMap encPa));exact ty_el;exact z03;rfl;rfl;rfl;rfl;exact hP.1.2;(exact atk);exact hone;(unfold maxLen;omega);(omega);intro a7 c7;refine apm ?_)
       simp only [Nat.zero_add]
       repeat' (first|((with_reducible apply z3t);exact ty_el;exact z03;intro bz;(refine apk ?_))|refine aw0 ?_|(refine ap2 ?_ ?_<;>try intro h)|refine aw1 ?_|(refine abx ?_;intro bb)|(refine abz ?_;intro bz)|(refine ahv ?_;intro v' hv')|(refine aac ?_;intro ac cc)|refine aw2 ?_|(refine ap4 ?_ ?_<;>try intro h)|apply True.intro)
       repeat' (first|refine aw0m ?_|(refine ap2 ?_ ?_<;>try intro h)|refine aw1m ?_|(refine abx ?_;intro bb)|(refine abz ?_;intro bz)|(refine ahv ?_;intro v' hv')|(refine aac ?_;intro ac cc)|refine aw2 ?_|(refine ap4 ?_ ?_<;>try intro h)|apply True.intro)
       ((with_reducible refine z0u ?_);(with_reducible apply z0v (news:=u8s (Z.getD i default).data));exact ty_el;exact z03;rfl;rfl;rfl;rfl;exact hbi;(exact atk);exact (z1y _);(unfold maxLen;omega);(omega);intro a8 c8;refine apm ?_)
       simp only [Nat.zero_add]
       repeat' (first|((with_reducible apply z5e (d:=some 114));exact ty_el;exact z03;rfl;rfl;rfl;(exact qcs);rfl;intro b9;(refine apk ?_))|refine aw0 ?_|(refine ap2 ?_ ?_<;>try intro h)|refine aw1 ?_|(refine abx ?_;intro bb)|(refine abz ?_;intro bz)|(refine ahv ?_;intro v' hv')|(refine aac ?_;intro ac cc)|refine aw2 ?_|(refine ap4 ?_ ?_<;>try intro h)|apply True.intro)
       ((with_reducible refine z0u ?_);(with_reducible apply z0k [(b9,.cells [.int .u8 (IntKind.u8.wrap k)].toArray 5 (0,0))]);(exact atks);intro r2 hl2;(with_reducible apply z0v (news:=[.int .u8 (IntKind.u8.wrap k)]));exact ty_el;exact z03;rfl;rfl;rfl;rfl;exact (Sl.lit (n:=1) (Lent.h1 hl2) rfl (by simp [maxLen]));(exact atk);rfl;(unfold maxLen;omega);(omega);intro a9 c9;refine apm ?_)
       simp only [wrapU]
       rw [← u8R_one']
       repeat' (first|((with_reducible apply zhx (i:=i) (j:=1));exact z08;rfl;rfl;(exact atk);rfl;(omega);(refine apk ?_))|refine aw0 ?_|(refine ap2 ?_ ?_<;>try intro h)|refine aw1 ?_|(refine abx ?_;intro bb)|(refine abz ?_;intro bz)|(refine ahv ?_;intro v' hv')|(refine aac ?_;intro ac cc)|refine aw2 ?_|(refine ap4 ?_ ?_<;>try intro h)|apply True.intro)
       rw [zlj Z i _ ((Z.getD i default).data++[UInt8.ofNat k]) (by omega)]
       have hcutk:List.take ((k:Int).toNat - Int.toNat 0) (List.drop (Int.toNat 0) Z)=Z.take k:=by simp
       have q3:(bodyB ((Z.take k).map pOf)).length<=900000:=Nat.le_trans (zo9 Z k) (by omega)
       (with_reducible refine z07 21 ?_);(with_reducible apply z05 (A:=U8R (.slice a9 ((Z.getD i default).data.length+1) c9) ((Z.getD i default).data++[UInt8.ofNat k])));(exact atk);intro r6 g6 hr6 hg6 hA6;(with_reducible apply z05 (A:=RowC 50 2 (.slice a7 Z.length c7) Z.length ((Z.set i ⟨(Z.getD i default).tag,.slice a9 ((Z.getD i default).data.length+1) c9,(Z.getD i default).data++[UInt8.ofNat k]⟩).flatMap encPa)));(exact atk);intro r7 g7 hr7 hg7 hA7;(refine acl Tryz.func21 ?_;refine acr (z9x r7 _ _ (z6r (z:=⟨(Z.getD i default).tag,.slice a9 ((Z.getD i default).data.length+1) c9,(Z.getD i default).data++[UInt8.ofNat k]⟩) (fun x hx=>(hP.2 x hx).mono (hr6.trans hr7)) ((hA6.sl hg6).mono hr7) rfl hA7 hg7) (q2 _ _ _ (by simp only [List.length_append,List.length_singleton];omega)) (by rw [List.length_set];omega)) ?_;rintro v' H' ⟨a11,c11,B11,rfl,rfl,hB11⟩;refine apl ?_)
       repeat' (first|((with_reducible apply sw_dropT (A:=pt b9 (.cells [.int .u8 (((UInt8.ofNat k).toNat:Nat):Int)].toArray 5 (0,0))));(with_reducible (exact atk)))|((with_reducible apply z3t);exact ty_el;exact z03;intro bz;(refine apk ?_))|refine aw0 ?_|(refine ap2 ?_ ?_<;>try intro h)|refine aw1 ?_|(refine abx ?_;intro bb)|(refine abz ?_;intro bz)|(refine ahv ?_;intro v' hv')|(refine aac ?_;intro ac cc)|refine aw2 ?_|(refine ap4 ?_ ?_<;>try intro h)|apply True.intro)
       · ((with_reducible refine z0u ?_);(with_reducible apply z0v (news:=u8s (Z.getD i default).data));exact ty_el;exact z03;rfl;rfl;rfl;rfl;exact hbi;(exact atk);exact (z1y _);(unfold maxLen;omega);(omega);intro a10 c10;refine apm ?_)
         simp only [Nat.zero_add]
         repeat' (first|((with_reducible apply zhx (i:=i) (j:=1));exact z08;rfl;rfl;(exact atk);rfl;(rw [z2b hP.1.1,List.length_set];omega);(refine apk ?_))|refine aw0 ?_|(refine ap2 ?_ ?_<;>try intro h)|refine aw1 ?_|(refine abx ?_;intro bb)|(refine abz ?_;intro bz)|(refine ahv ?_;intro v' hv')|(refine aac ?_;intro ac cc)|refine aw2 ?_|(refine ap4 ?_ ?_<;>try intro h)|apply True.intro)
         rw [zrb Z i _ _ _ _ ((Z.getD i default).data.set k (UInt8.ofNat ((((((Z.getD i default).data.getD k 0).toNat:Nat):Int)+1) % 256).toNat)) (by omega)]
         refine z13 (A:=RowC 50 2 (.slice a7 Z.length c7) Z.length ((Z.set i ⟨(Z.getD i default).tag,.slice a10 (Z.getD i default).data.length c10,((Z.getD i default).data.set k (UInt8.ofNat ((((((Z.getD i default).data.getD k 0).toNat:Nat):Int)+1) % 256).toNat))⟩).flatMap encPa)) atk fun r6 g6 hr6 hg6 hA6=>?_
         have hE6:Els r6 2 encPa (.slice a7 Z.length c7) (Z.set i ⟨(Z.getD i default).tag,.slice a10 (Z.getD i default).data.length c10,((Z.getD i default).data.set k (UInt8.ofNat ((((((Z.getD i default).data.getD k 0).toNat:Nat):Int)+1) % 256).toNat))⟩):=⟨fun _=>rfl,by rw [List.length_set];exact hA6.sl hg6⟩
         have hln:(Z.set i ⟨(Z.getD i default).tag,.slice a10 (Z.getD i default).data.length c10,((Z.getD i default).data.set k (UInt8.ofNat ((((((Z.getD i default).data.getD k 0).toNat:Nat):Int)+1) % 256).toNat))⟩).length=Z.length:=List.length_set
         have hset:((Z.set i ⟨(Z.getD i default).tag,.slice a10 (Z.getD i default).data.length c10,((Z.getD i default).data.set k (UInt8.ofNat ((((((Z.getD i default).data.getD k 0).toNat:Nat):Int)+1) % 256).toNat))⟩).getD i default).val = .slice a10 (Z.getD i default).data.length c10:=by
          rw [List.getD_eq_getElem?_getD,List.getElem?_set_self (by omega)]
          rfl
         have hul:(u8s (Z.getD i default).data).length=(Z.getD i default).data.length:=zjl _
         have hkD:k<(Z.getD i default).data.length:=by omega
         have hld:(u8s (Z.getD i default).data)[(k:Int).toNat*1]?=some (.int .u8 (((Z.getD i default).data.getD k 0).toNat:Nat)):=by
          rw [Int.toNat_natCast,Nat.mul_one]
          unfold u8s
          rw [List.getElem?_map,List.getElem?_eq_getElem hkD,show (Z.getD i default).data.getD k 0=(Z.getD i default).data[k] from (by rw [List.getD_eq_getElem?_getD,List.getElem?_eq_getElem hkD];rfl)]
          rfl
         repeat' (first|((with_reducible apply z02 (id:=26) 15 [(0,true),(1,true),(2,true),(3,true),(4,true),(5,true),(6,true),(7,true),(8,true),(9,true),(10,true),(11,true),(12,false),(13,false),(14,true)] [(15,false),(16,false)] []);kernel_rfl;(exact atks);kernel_rfl;intro r' hl')|(rw [hset])|((with_reducible apply zfo);rfl;(exact atk);exact hld;(refine apk ?_))|((with_reducible apply z7f);exact z08;rfl;rfl;(exact atk);rfl;(rw [hul];omega);(refine apk ?_))|refine aw0 ?_|(refine ap2 ?_ ?_<;>try intro h)|refine aw1 ?_|(refine abx ?_;intro bb)|(refine abz ?_;intro bz)|(refine ahv ?_;intro v' hv')|(refine aac ?_;intro ac cc)|refine aw2 ?_|(refine ap4 ?_ ?_<;>try intro h)|apply True.intro)
         simp only [Int.toNat_natCast,Nat.mul_one,zok]
         rw [zol]
         (with_reducible refine z07 21 ?_);(with_reducible apply z05 (A:=U8R (.slice a10 (Z.getD i default).data.length c10) ((Z.getD i default).data.set k (UInt8.ofNat ((((((Z.getD i default).data.getD k 0).toNat:Nat):Int)+1) % 256).toNat))));(exact atk);intro r6 g6 hr6 hg6 hA6;(with_reducible apply z05 (A:=RowC 50 2 (.slice a7 Z.length c7) Z.length ((Z.set i ⟨(Z.getD i default).tag,.slice a10 (Z.getD i default).data.length c10,((Z.getD i default).data.set k (UInt8.ofNat ((((((Z.getD i default).data.getD k 0).toNat:Nat):Int)+1) % 256).toNat))⟩).flatMap encPa)));(exact atk);intro r7 g7 hr7 hg7 hA7;(refine acl Tryz.func21 ?_;refine acr (z9x r7 _ _ (z6r (z:=⟨(Z.getD i default).tag,.slice a10 (Z.getD i default).data.length c10,((Z.getD i default).data.set k (UInt8.ofNat ((((((Z.getD i default).data.getD k 0).toNat:Nat):Int)+1) % 256).toNat))⟩) (fun x hx=>(hP.2 x hx).mono (hr6.trans hr7)) ((hA6.sl hg6).mono hr7) rfl hA7 hg7) (q2 _ _ _ (by simp only [List.length_set];omega)) (by rw [List.length_set];omega)) ?_;rintro v' H' ⟨a12,c12,B12,rfl,rfl,hB12⟩;refine apl ?_)
         repeat' (first|((with_reducible apply sw_dropT (A:=RowC 50 2 (.slice a7 Z.length c7) Z.length ((Z.set i ⟨(Z.getD i default).tag,.slice a10 (Z.getD i default).data.length c10,((Z.getD i default).data.set k (UInt8.ofNat ((((((Z.getD i default).data.getD k 0).toNat:Nat):Int)+1) % 256).toNat))⟩).flatMap encPa)));(with_reducible (exact atk)))|((with_reducible apply sw_dropT (A:=U8R ((.slice a10 (Z.getD i default).data.length c10)) (((Z.getD i default).data.set k (UInt8.ofNat ((((((Z.getD i default).data.getD k 0).toNat:Nat):Int)+1) % 256).toNat)))));(with_reducible (exact atk)))|((with_reducible apply zja);rfl;(exact qael);(exact qbd);(omega);intro v' hv';(refine apk ?_))|(rw [hcutk] at hv')|(refine acl Tryz.func21 ?_;refine acr (z9x _ _ _ ⟨hv',fun x hx=>hP.2 x (List.mem_of_mem_take hx)⟩ q3 (by rw [List.length_take];omega)) ?_;rintro v' H' ⟨a13,c13,B13,rfl,rfl,hB13⟩;refine apl ?_)|exact xf|refine aw0 ?_|(refine ap2 ?_ ?_<;>try intro h)|refine aw1 ?_|(refine abx ?_;intro bb)|(refine abz ?_;intro bz)|(refine ahv ?_;intro v' hv')|(refine aac ?_;intro ac cc)|refine aw2 ?_|(refine ap4 ?_ ?_<;>try intro h)|apply True.intro)
         ((with_reducible refine z07 4 ?_);(with_reducible apply z05 (A:=U8R (.slice a4 B4.length c4) B4));(exact atk);intro r8 g8 hr8 hg8 hA8;(refine acl Tryz.func4 ?_;refine acr (z0p r8 _ B4 _ (hA8.sl hg8) (by omega)) ?_;rintro v' H' ⟨rfl,rfl⟩;refine apl ?_))
         repeat' (first|exact xf|refine aw0 ?_|(refine ap2 ?_ ?_<;>try intro h)|refine aw1 ?_|(refine abx ?_;intro bb)|(refine abz ?_;intro bz)|(refine ahv ?_;intro v' hv')|(refine aac ?_;intro ac cc)|refine aw2 ?_|(refine ap4 ?_ ?_<;>try intro h)|apply True.intro)
         ((with_reducible refine z07 4 ?_);(with_reducible apply z05 (A:=U8R (.slice a6 B6.length c6) B6));(exact atk);intro r8 g8 hr8 hg8 hA8;(refine acl Tryz.func4 ?_;refine acr (z0p r8 _ B6 _ (hA8.sl hg8) (by omega)) ?_;rintro v' H' ⟨rfl,rfl⟩;refine apl ?_))
         repeat' (first|exact xf|refine aw0 ?_|(refine ap2 ?_ ?_<;>try intro h)|refine aw1 ?_|(refine abx ?_;intro bb)|(refine abz ?_;intro bz)|(refine ahv ?_;intro v' hv')|(refine aac ?_;intro ac cc)|refine aw2 ?_|(refine ap4 ?_ ?_<;>try intro h)|apply True.intro)
         ((with_reducible refine z07 4 ?_);(with_reducible apply z05 (A:=U8R (.slice a11 B11.length c11) B11));(exact atk);intro r8 g8 hr8 hg8 hA8;(refine acl Tryz.func4 ?_;refine acr (z0p r8 _ B11 _ (hA8.sl hg8) (by omega)) ?_;rintro v' H' ⟨rfl,rfl⟩;refine apl ?_))
         repeat' (first|exact xf|refine aw0 ?_|(refine ap2 ?_ ?_<;>try intro h)|refine aw1 ?_|(refine abx ?_;intro bb)|(refine abz ?_;intro bz)|(refine ahv ?_;intro v' hv')|(refine aac ?_;intro ac cc)|refine aw2 ?_|(refine ap4 ?_ ?_<;>try intro h)|apply True.intro)
         ((with_reducible refine z07 4 ?_);(with_reducible apply z05 (A:=U8R (.slice a12 B12.length c12) B12));(exact atk);intro r8 g8 hr8 hg8 hA8;(refine acl Tryz.func4 ?_;refine acr (z0p r8 _ B12 _ (hA8.sl hg8) (by omega)) ?_;rintro v' H' ⟨rfl,rfl⟩;refine apl ?_))
         repeat' (first|exact xf|refine aw0 ?_|(refine ap2 ?_ ?_<;>try intro h)|refine aw1 ?_|(refine abx ?_;intro bb)|(refine abz ?_;intro bz)|(refine ahv ?_;intro v' hv')|(refine aac ?_;intro ac cc)|refine aw2 ?_|(refine ap4 ?_ ?_<;>try intro h)|apply True.intro)
         ((with_reducible refine z07 4 ?_);(with_reducible apply z05 (A:=U8R (.slice a13 B13.length c13) B13));(exact atk);intro r8 g8 hr8 hg8 hA8;(refine acl Tryz.func4 ?_;refine acr (z0p r8 _ B13 _ (hA8.sl hg8) (by omega)) ?_;rintro v' H' ⟨rfl,rfl⟩;refine apl ?_))
         repeat' (first|exact xf|refine aw0 ?_|(refine ap2 ?_ ?_<;>try intro h)|refine aw1 ?_|(refine abx ?_;intro bb)|(refine abz ?_;intro bz)|(refine ahv ?_;intro v' hv')|(refine aac ?_;intro ac cc)|refine aw2 ?_|(refine ap4 ?_ ?_<;>try intro h)|apply True.intro)
         exact ⟨_,by omega,k+1,rfl,by omega,⟨_,atks⟩,asls⟩
       · (with_reducible refine z07 21 ?_);(with_reducible apply z05 (A:=U8R (.slice a9 ((Z.getD i default).data.length+1) c9) ((Z.getD i default).data++[UInt8.ofNat k])));(exact atk);intro r6 g6 hr6 hg6 hA6;(with_reducible apply z05 (A:=RowC 50 2 (.slice a7 Z.length c7) Z.length ((Z.set i ⟨(Z.getD i default).tag,.slice a9 ((Z.getD i default).data.length+1) c9,(Z.getD i default).data++[UInt8.ofNat k]⟩).flatMap encPa)));(exact atk);intro r7 g7 hr7 hg7 hA7;(refine acl Tryz.func21 ?_;refine acr (z9x r7 _ _ (z6r (z:=⟨(Z.getD i default).tag,.slice a9 ((Z.getD i default).data.length+1) c9,(Z.getD i default).data++[UInt8.ofNat k]⟩) (fun x hx=>(hP.2 x hx).mono (hr6.trans hr7)) ((hA6.sl hg6).mono hr7) rfl hA7 hg7) (q2 _ _ _ (by simp only [List.length_append,List.length_singleton];omega)) (by rw [List.length_set];omega)) ?_;rintro v' H' ⟨a12,c12,B12,rfl,rfl,hB12⟩;refine apl ?_)
         repeat' (first|((with_reducible apply sw_dropT (A:=RowC 50 2 (.slice a7 Z.length c7) Z.length ((Z.set i ⟨(Z.getD i default).tag,.slice a9 ((Z.getD i default).data.length+1) c9,(Z.getD i default).data++[UInt8.ofNat k]⟩).flatMap encPa)));(with_reducible (exact atk)))|((with_reducible apply sw_dropT (A:=U8R ((.slice a9 ((Z.getD i default).data.length+1) c9)) (((Z.getD i default).data++[UInt8.ofNat k]))));(with_reducible (exact atk)))|((with_reducible apply zja);rfl;(exact qael);(exact qbd);(omega);intro v' hv';(refine apk ?_))|(rw [hcutk] at hv')|(refine acl Tryz.func21 ?_;refine acr (z9x _ _ _ ⟨hv',fun x hx=>hP.2 x (List.mem_of_mem_take hx)⟩ q3 (by rw [List.length_take];omega)) ?_;rintro v' H' ⟨a13,c13,B13,rfl,rfl,hB13⟩;refine apl ?_)|exact xf|refine aw0 ?_|(refine ap2 ?_ ?_<;>try intro h)|refine aw1 ?_|(refine abx ?_;intro bb)|(refine abz ?_;intro bz)|(refine ahv ?_;intro v' hv')|(refine aac ?_;intro ac cc)|refine aw2 ?_|(refine ap4 ?_ ?_<;>try intro h)|apply True.intro)
         ((with_reducible refine z07 4 ?_);(with_reducible apply z05 (A:=U8R (.slice a4 B4.length c4) B4));(exact atk);intro r8 g8 hr8 hg8 hA8;(refine acl Tryz.func4 ?_;refine acr (z0p r8 _ B4 _ (hA8.sl hg8) (by omega)) ?_;rintro v' H' ⟨rfl,rfl⟩;refine apl ?_))
         repeat' (first|exact xf|refine aw0 ?_|(refine ap2 ?_ ?_<;>try intro h)|refine aw1 ?_|(refine abx ?_;intro bb)|(refine abz ?_;intro bz)|(refine ahv ?_;intro v' hv')|(refine aac ?_;intro ac cc)|refine aw2 ?_|(refine ap4 ?_ ?_<;>try intro h)|apply True.intro)
         ((with_reducible refine z07 4 ?_);(with_reducible apply z05 (A:=U8R (.slice a6 B6.length c6) B6));(exact atk);intro r8 g8 hr8 hg8 hA8;(refine acl Tryz.func4 ?_;refine acr (z0p r8 _ B6 _ (hA8.sl hg8) (by omega)) ?_;rintro v' H' ⟨rfl,rfl⟩;refine apl ?_))
         repeat' (first|exact xf|refine aw0 ?_|(refine ap2 ?_ ?_<;>try intro h)|refine aw1 ?_|(refine abx ?_;intro bb)|(refine abz ?_;intro bz)|(refine ahv ?_;intro v' hv')|(refine aac ?_;intro ac cc)|refine aw2 ?_|(refine ap4 ?_ ?_<;>try intro h)|apply True.intro)
         ((with_reducible refine z07 4 ?_);(with_reducible apply z05 (A:=U8R (.slice a11 B11.length c11) B11));(exact atk);intro r8 g8 hr8 hg8 hA8;(refine acl Tryz.func4 ?_;refine acr (z0p r8 _ B11 _ (hA8.sl hg8) (by omega)) ?_;rintro v' H' ⟨rfl,rfl⟩;refine apl ?_))
         repeat' (first|exact xf|refine aw0 ?_|(refine ap2 ?_ ?_<;>try intro h)|refine aw1 ?_|(refine abx ?_;intro bb)|(refine abz ?_;intro bz)|(refine ahv ?_;intro v' hv')|(refine aac ?_;intro ac cc)|refine aw2 ?_|(refine ap4 ?_ ?_<;>try intro h)|apply True.intro)
         ((with_reducible refine z07 4 ?_);(with_reducible apply z05 (A:=U8R (.slice a12 B12.length c12) B12));(exact atk);intro r8 g8 hr8 hg8 hA8;(refine acl Tryz.func4 ?_;refine acr (z0p r8 _ B12 _ (hA8.sl hg8) (by omega)) ?_;rintro v' H' ⟨rfl,rfl⟩;refine apl ?_))
         repeat' (first|exact xf|refine aw0 ?_|(refine ap2 ?_ ?_<;>try intro h)|refine aw1 ?_|(refine abx ?_;intro bb)|(refine abz ?_;intro bz)|(refine ahv ?_;intro v' hv')|(refine aac ?_;intro ac cc)|refine aw2 ?_|(refine ap4 ?_ ?_<;>try intro h)|apply True.intro)
         ((with_reducible refine z07 4 ?_);(with_reducible apply z05 (A:=U8R (.slice a13 B13.length c13) B13));(exact atk);intro r8 g8 hr8 hg8 hA8;(refine acl Tryz.func4 ?_;refine acr (z0p r8 _ B13 _ (hA8.sl hg8) (by omega)) ?_;rintro v' H' ⟨rfl,rfl⟩;refine apl ?_))
         repeat' (first|exact xf|refine aw0 ?_|(refine ap2 ?_ ?_<;>try intro h)|refine aw1 ?_|(refine abx ?_;intro bb)|(refine abz ?_;intro bz)|(refine ahv ?_;intro v' hv')|(refine aac ?_;intro ac cc)|refine aw2 ?_|(refine ap4 ?_ ?_<;>try intro h)|apply True.intro)
         exact ⟨_,by omega,k+1,rfl,by omega,⟨_,atks⟩,asls⟩
     · repeat' (first|exact xf|refine aw0 ?_|(refine ap2 ?_ ?_<;>try intro h)|refine aw1 ?_|(refine abx ?_;intro bb)|(refine abz ?_;intro bz)|(refine ahv ?_;intro v' hv')|(refine aac ?_;intro ac cc)|refine aw2 ?_|(refine ap4 ?_ ?_<;>try intro h)|apply True.intro)
       exact ⟨_,by omega,i+1,rfl,by omega,⟨_,atks⟩,asls⟩
   · repeat' (first|exact xf|refine aw0 ?_|(refine ap2 ?_ ?_<;>try intro h)|refine aw1 ?_|(refine abx ?_;intro bb)|(refine abz ?_;intro bz)|(refine ahv ?_;intro v' hv')|(refine aac ?_;intro ac cc)|refine aw2 ?_|(refine ap4 ?_ ?_<;>try intro h)|apply True.intro)
     exact ⟨_,by omega,n+1,rfl,by omega,⟨_,atks⟩,asls⟩
 · have htl:=fun r' v (h:ShR r' v [])=>z9i r' v (.slice none 0 0) [] [97,98,99] h ⟨⟨fun _=>rfl,Sl.nil _ _⟩,fun f hf=>by cases hf⟩ (Nat.zero_le _) (by kernel_rfl)
   repeat' (first|(refine acl Tryz.func18 ?_;refine acr (htl _ (.pointer none) (.inl ⟨rfl,rfl⟩)) ?_;rintro v' H' ⟨rfl,rfl⟩;refine apl ?_)|(refine acl Tryz.func4 ?_;refine acr (z0p _ _ [] [] (Sl.nil _ _) (by simp)) ?_;rintro v' H' ⟨rfl,rfl⟩;refine apl ?_)|(refine acl Tryz.func8 ?_;refine acr (z1v _) ?_;rintro v' H' ⟨rfl,rfl⟩;refine apl ?_)|((with_reducible apply z2w);rfl;(exact qcl);intro bs;(refine apk ?_))|((with_reducible apply z0k [(bs,.cells [.pointer none].toArray 54 (0,0))]);(exact atks);intro r' hl';refine acl Tryz.func18 ?_;refine acr (htl _ _ (.inr (.inl ⟨_,rfl,Lent.h1 hl',rfl⟩))) ?_;rintro v' H' ⟨rfl,rfl⟩;all_goals refine apm ?_)|exact xf|refine aw0 ?_|(refine ap2 ?_ ?_<;>try intro h)|refine aw1 ?_|(refine abx ?_;intro bb)|(refine abz ?_;intro bz)|(refine ahv ?_;intro v' hv')|(refine aac ?_;intro ac cc)|refine aw2 ?_|(refine ap4 ?_ ?_<;>try intro h)|apply True.intro)
   ((with_reducible apply z00);exact res_1 rfl rfl)
   exact HR.out _ _ _ [] Takes.all ⟨rfl,rfl⟩
end Go.Proofs.YtohpeoakdgckfaaGreat
