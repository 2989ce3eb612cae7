/- shard.read, Open: their contracts. -/
import Derived.Test.YtohpeoakdgckfaaGreatSv
import Derived.Test.YtohpeoakdgckfaaGreatSm
import Derived.Test.YtohpeoakdgckfaaGreatSf
set_option maxHeartbeats 4000000
set_option maxRecDepth 10000
namespace Go.Proofs.YtohpeoakdgckfaaGreat
open Go.RowKit Sx
theorem zrf (r:Hp) (v1 v2:Value) (h1:one? v1=true) (h2:one? v2=true):Tri Tryz.prog r 124 [v1,v2] [] fun w H => ∃ b1 b2,w = .func (.func 189) #[] #[.pointer (some ⟨b1,0,none⟩),.pointer (some ⟨b2,0,none⟩)]/\H=[pt b1 (.cells [v1].toArray 66 (0,0)),pt b2 (.cells [v2].toArray 26 (0,0))]:=by
 refine Tri.free2 fun R HR=>?_
 refine ae Tryz.func124 Tryz.ntmps124 ?_
 repeat' (first|((with_reducible apply z2w);rfl;(exact z2v h1);intro b1;(refine apk ?_))|((with_reducible apply z2w);rfl;(exact z2v h2);intro b2;(refine apk ?_))|refine aw0 ?_|(refine ap2 ?_ ?_<;>try intro h)|refine aw1 ?_|(refine abx ?_;intro bb)|(refine abz ?_;intro bz)|(refine ahv ?_;intro v' hv')|(refine aac ?_;intro ac cc)|refine aw2 ?_|(refine ap4 ?_ ?_<;>try intro h)|apply True.intro)
 ((with_reducible apply z00);exact res_1 rfl rfl)
 exact HR.out _ _ _ [_,_] atks ⟨_,_,rfl,rfl⟩
theorem z4j {r g:Hp} {v:Value} {Z:List PartV} {p0 p1 p2 p3:PartP} (h:PrtZ v Z g) (hs:sub g r) (hZ:Z.map pOf=[p0,p1,p2,p3]):Els r 2 encPa v Z/\U8S r (Z.getD 0 default).val p0.2/\U8S r (Z.getD 1 default).val p1.2/\U8S r (Z.getD 3 default).val p3.2:=by
 obtain ⟨h1,h2⟩:=zb2 h hs
 match Z,hZ with
 | [z0,z1,z2,z3],hZ =>
  simp only [List.map_cons,List.map_nil,List.cons.injEq,and_true] at hZ
  obtain ⟨rfl,rfl,rfl,rfl⟩:=hZ
  exact ⟨h1,h2 z0 (by simp),h2 z1 (by simp),h2 z3 (by simp)⟩
theorem za2 {ds:List DocV} (h:docsOk ds=true) : ∀ d∈ds,0<=d.size/\d.size<=1048576:=fun d hd=>by
 unfold docsOk at h
 simp only [Bool.and_eq_true,decide_eq_true_eq,Bool.not_eq_true',List.any_eq_false] at h
 have:=h.1.2 d hd
 simp [docBad] at this
 exact ⟨this.1.2,this.2⟩
theorem zm4 (r:Hp) (v:Value) (b:List UInt8) (hv:U8S r v b) (hb:Small b):Tri Tryz.prog r 52 [v] [] fun w H => ∃ ad nd cd af nf cf ap np cp ok,w = .tuple #[.agg [.slice ad nd cd,.slice af nf cf,.slice ap np cp].toArray,.bool ok] /\
 ((ok=true /\ ∃ p0 p1 p2 p3 ps,partsF b=some [p0,p1,p2,p3]/\getOk p0.2=true/\wholeK p0.2 p1.2=true/\getP p3.2=some ps/\H=[DocR (.slice ad nd cd) (getDocs p0.2).1,FilC (.slice af nf cf) (cutsK p0.2 p1.2),PostC 145 149 (.slice ap np cp) ps])\/(ok=false/\openK b=none/\H=[])):=by
 refine Tri.free2 fun R HR=>?_
 have hb1:=hb.1
 have hg:=zou r v b hv hb1
 cases hpf:partsF b with
 | none =>
  rw [hpf] at hg
  dsimp only at hg
  have hn:openK b=none:=z4y fun _ _ _ _ e=>by rw [hpf] at e;cases e
  refine ae Tryz.func52 Tryz.ntmps52 ?_
  repeat' (first|((with_reducible apply z0c (E:=114));exact z0l;(exact qcl);intro b2;(refine apk ?_))|((with_reducible apply z0c (E:=4));exact z0l;(exact qcl);intro b3;(refine apk ?_))|(refine acl Tryz.func122 ?_;refine acr (hg) ?_;rintro v' H' ⟨rfl,rfl⟩;refine apl ?_)|exact xf|refine aw0 ?_|(refine ap2 ?_ ?_<;>try intro h)|refine aw1 ?_|(refine abx ?_;intro bb)|(refine abz ?_;intro bz)|(refine ahv ?_;intro v' hv')|(refine aac ?_;intro ac cc)|refine aw2 ?_|(refine ap4 ?_ ?_<;>try intro h)|apply True.intro)
  ((with_reducible apply z00);exact res_Wc rfl rfl rfl atk z0a z08 rfl z0a (by (exact ard)))
  exact HR.out _ _ _ [] Takes.all ⟨_,_,_,_,_,_,_,_,_,_,rfl,.inr ⟨rfl,hn,rfl⟩⟩
 | some ps =>
  rw [hpf] at hg
  dsimp only at hg
  by_cases h4:ps.length=4
  · obtain ⟨p0,p1,p2,p3,rfl⟩ : ∃ p0 p1 p2 p3,ps=[p0,p1,p2,p3]:=by
     match ps,h4 with
     | [a,b,c,d],_=>exact ⟨a,b,c,d,rfl⟩
    have hpl:=z3z hpf
    obtain ⟨hb3,hbz⟩:=hb.2 _ _ _ _ hpf
    rw [show ([p0,p1,p2,p3]:List PartP).length=4 from rfl] at hg
    have hdoc:=fun r' v' (h:U8S r' v' p0.2)=>zqq r' v' p0.2 h (by omega)
    cases hgo:getOk p0.2
    · rw [hgo] at hdoc
      simp only [Bool.false_eq_true,if_false] at hdoc
      have hn:openK b=none:=by rw [z2j hpf,hgo];rfl
      refine ae Tryz.func52 Tryz.ntmps52 ?_
      repeat' (first|((with_reducible apply z0c (E:=114));exact z0l;(exact qcl);intro b2;(refine apk ?_))|((with_reducible apply z0c (E:=4));exact z0l;(exact qcl);intro b3;(refine apk ?_))|(refine acl Tryz.func122 ?_;refine acr (hg) ?_;rintro v' H' ⟨a1,c1,rfl,rfl⟩;refine apl ?_)|((with_reducible apply z1x (A:=PrtC (.slice a1 4 c1) [p0,p1,p2,p3]) (ι:=List PartV) (B:=fun Z=>[PrtZ (.slice a1 4 c1) Z]) (φ:=fun Z=>Z.map pOf=[p0,p1,p2,p3]));(with_reducible (exact atk));(exact fun h ⟨Z,h1,h2⟩=>⟨Z,h1,z11.2 h2⟩);(rintro Z hZ);(simp only [List.nil_append,List.cons_append]);(have hZl:Z.length=4:=(by have h:=congrArg List.length hZ;rwa [List.length_map] at h)))|((with_reducible apply z13 (c:= .region 4 _ _) (A:=PrtZ (.slice a1 4 c1) Z));(with_reducible (exact atk));intro r1 g1 hr1 hg1 hA1;obtain ⟨hP1,hP2,hP3,hP4⟩:=z4j hA1 hg1 hZ)|(refine acl Tryz.func123 ?_;refine acr (hdoc _ _ hP2) ?_;rintro v' H' ⟨rfl,rfl⟩;refine apl ?_)|exact xf|refine aw0 ?_|(refine ap2 ?_ ?_<;>try intro h)|refine aw1 ?_|(refine abx ?_;intro bb)|(refine abz ?_;intro bz)|(refine ahv ?_;intro v' hv')|(refine aac ?_;intro ac cc)|refine aw2 ?_|(refine ap4 ?_ ?_<;>try intro h)|apply True.intro)
      ((with_reducible apply z00);exact res_Wc rfl rfl rfl atk z0a z08 rfl z0a (by (exact ard)))
      exact HR.out _ _ _ [] Takes.all ⟨_,_,_,_,_,_,_,_,_,_,rfl,.inr ⟨rfl,hn,rfl⟩⟩
    · rw [hgo] at hdoc
      simp only [if_true] at hdoc
      obtain ⟨ds,hds⟩ : ∃ ds,(getDocs p0.2).1=ds:=⟨_,rfl⟩
      have hdk:docsOk ds=true:=by
       unfold getOk at hgo
       rw [← hds]
       simp only [Bool.and_eq_true] at hgo
       exact hgo.2
      have hdl:=z6n (numR 4000 (some p0.2)).1 (numR 4000 (some p0.2)).2
      rw [show docsR (numR 4000 (some p0.2)).1 (numR 4000 (some p0.2)).2=getDocs p0.2 from rfl,hds] at hdl
      have hdl2:=z18 4000 (some p0.2)
      rw [show ((4000:Nat):Int)=4000 from rfl] at hdl2
      have hsz:=za2 hdk
      rw [hds] at hdoc
      have hpost:=fun r' v' (h:U8S r' v' p3.2)=>zer r' v' p3.2 h (by omega)
      obtain ⟨qs,hqs⟩ : ∃ qs,(getP p3.2).getD []=qs:=⟨_,rfl⟩
      obtain ⟨e,he⟩ : ∃ e:Int,(if (getP p3.2).isSome then (0:Int) else 9)=e:=⟨_,rfl⟩
      rw [hqs,he] at hpost
      have hgp:(e=0/\getP p3.2=some qs)\/(e=9/\getP p3.2=none):=by
       cases h:getP p3.2 with
       | none=>rw [h] at he;exact .inr ⟨he.symm,rfl⟩
       | some x=>rw [h] at he hqs;exact .inl ⟨he.symm,by rw [← hqs];rfl⟩
      obtain ⟨X,hX⟩ : ∃ X,cutX ds p1.2=X:=⟨_,rfl⟩
      have hXc:cutsK p0.2 p1.2=X.map (·.1):=by rw [← hX,← hds];rfl
      have hXw:wholeK p0.2 p1.2=X.all (·.2):=by rw [← hX,← hds];rfl
      have hXl:X.length<=4000:=by rw [← hX,z5n];omega
      have hcs:=fun r' b5 b6 v1 v2 (hd:Docs r' v1 ds) (hb:U8S r' v2 p1.2)=>zr2 r' b5 b6 v1 v2 ds p1.2 hd hb hsz (by omega) (by omega)
      rw [hX] at hcs
      have hbad:X.all (·.2)=false->openK b=none:=fun h=>by rw [z2j hpf,hXw,h,hgo];rfl
      have hnop:getP p3.2=none->openK b=none:=fun h=>by
       cases ho:openK b with
       | none=>rfl
       | some ks=>have:=(z9o ho (zb1 hb ho) hpf).2;rw [h] at this;cases this
      clear he hqs hX hsz
      refine ae Tryz.func52 Tryz.ntmps52 ?_
      repeat' (first|((with_reducible apply z0c (E:=114));exact z0l;(exact qcl);intro b2;(refine apk ?_))|((with_reducible apply z0c (E:=4));exact z0l;(exact qcl);intro b3;(refine apk ?_))|(refine acl Tryz.func122 ?_;refine acr (hg) ?_;rintro v' H' ⟨a1,c1,rfl,rfl⟩;refine apl ?_)|((with_reducible apply z1x (A:=PrtC (.slice a1 4 c1) [p0,p1,p2,p3]) (ι:=List PartV) (B:=fun Z=>[PrtZ (.slice a1 4 c1) Z]) (φ:=fun Z=>Z.map pOf=[p0,p1,p2,p3]));(with_reducible (exact atk));(exact fun h ⟨Z,h1,h2⟩=>⟨Z,h1,z11.2 h2⟩);(rintro Z hZ);(simp only [List.nil_append,List.cons_append]);(have hZl:Z.length=4:=(by have h:=congrArg List.length hZ;rwa [List.length_map] at h)))|((with_reducible apply z13 (c:= .region 4 _ _) (A:=PrtZ (.slice a1 4 c1) Z));(with_reducible (exact atk));intro r1 g1 hr1 hg1 hA1;obtain ⟨hP1,hP2,hP3,hP4⟩:=z4j hA1 hg1 hZ)|(refine acl Tryz.func123 ?_;refine acr (hdoc _ _ hP2) ?_;rintro v' H' ⟨a2,c2,rfl,rfl⟩;refine apl ?_)|((with_reducible apply z13 (c:= .region 8 _ _) (A:=PrtZ (.slice a1 4 c1) Z));(with_reducible (exact atk));intro r1 g1 hr1 hg1 hA1;obtain ⟨hP1,hP2,hP3,hP4⟩:=z4j hA1 hg1 hZ)|((with_reducible apply z02 (id:=8) 7 [(0,true),(1,true),(2,true),(3,true),(4,true),(5,true),(6,false)] [] [(b2,.cells [.slice a2 ds.length c2,.slice none 0 0,.slice none 0 0].toArray 114 (0,0))]);kernel_rfl;(exact atks);kernel_rfl;intro r' hl')|(refine acl Tryz.func124 ?_;refine acr (zrf _ _ _ rfl hP3.one) ?_;rintro v' H' ⟨b5,b6,rfl,rfl⟩;refine apl ?_)|exact xf|refine aw0 ?_|(refine ap2 ?_ ?_<;>try intro h)|refine aw1 ?_|(refine abx ?_;intro bb)|(refine abz ?_;intro bz)|(refine ahv ?_;intro v' hv')|(refine aac ?_;intro ac cc)|refine aw2 ?_|(refine ap4 ?_ ?_<;>try intro h)|apply True.intro)
      refine z0f (A:=RowC 45 2 (.slice none 0 0) 0 []) (RowC.nil _ _) ?_
      refine z0f (A:=ByC []) rfl ?_
      refine z13 (A:=PrtZ (.slice a1 4 c1) Z) atk fun r2 g2 hr2 hg2 hA2=>?_
      refine z13 (A:=DocR (.slice a2 ds.length c2) ds) atk fun r3 g3 hr3 hg3 hA3=>?_
      obtain ⟨hQ1,hQ2,hQ3,hQ4⟩:=z4j hA2 hg2 hZ
      refine zaf rfl (z2h Tryz.func189 (by kernel_rfl) rfl) (hcs r3 b5 b6 _ _ ⟨fun _=>rfl,hA3.sl hg3⟩ (hQ3.mono hr3)) atks (fun x args C ⟨a,c,h,_⟩=>by rw [h];rfl)
       (fun j H=>(∀ x∈X.take j,x.2=true) /\ ∃ (W:List FileV) (a:Option Addr) (c:Nat),W.map FileV.key=(X.take j).map (·.1) /\ ∃ G,Takes [pt b2 (.cells [.slice a2 ds.length c2,.slice a W.length c,.slice none 0 0].toArray 114 (0,0)),pt b3 (.cells [.bool true].toArray 4 (0,0)),RowC 45 2 (.slice a W.length c) W.length (W.flatMap encF),ByC (W.map bytF)] H G)
       (fun cd j H=>cd = .exit 0/\(∃ x∈X,x.2=false) /\ ∃ a n c G,Takes [pt b2 (.cells [.slice a2 ds.length c2,.slice a n c,.slice none 0 0].toArray 114 (0,0)),pt b3 (.cells [.bool false].toArray 4 (0,0))] H G) ?_ ?_ ?_ ?_
      · exact ⟨fun x hx=>by simp at hx,[],none,0,rfl,_,by (exact atks)⟩
      · rintro kk i hi args C H ⟨a7,c7,rfl,rfl⟩ ⟨hall,W,a,c,hW,G,hp⟩
        have hWl:W.length=i:=by have h:=congrArg List.length hW;rw [List.length_map,List.length_map,List.length_take] at h;omega
        obtain ⟨⟨⟨fp,fd⟩,ok⟩,hx⟩ : ∃ x,X[i]=x:=⟨_,rfl⟩
        have hxm:X[i]∈X:=List.getElem_mem hi
        have htk:X.take (i+1)=X.take i++[((fp,fd),ok)]:=by rw [List.take_succ_eq_append_getElem hi,hx]
        rw [hx] at hxm ⊢
        dsimp only
        have hp':=Takes.cons (Take.here (A:=U8R (.slice a7 fd.length c7) fd) (H:=H)) hp
        refine z01 hp' ?_
        clear hp hp'
        cases ok
        · refine sw_pars2 ?_
          (refine apk ?_)
          refine then2_mk ?_
          (refine apk ?_)
          repeat' (first|((with_reducible apply z0c (E:=45));exact z0l;(exact qcl);intro b9;(refine apk ?_))|exact xf|refine aw0 ?_|(refine ap2 ?_ ?_<;>try intro h)|refine aw1 ?_|(refine abx ?_;intro bb)|(refine abz ?_;intro bz)|(refine ahv ?_;intro v' hv')|(refine aac ?_;intro ac cc)|refine aw2 ?_|(refine ap4 ?_ ?_<;>try intro h)|apply True.intro)
          exact ⟨rfl,⟨_,hxm,rfl⟩,_,_,_,_,by (exact atks)⟩
        · refine z0b (As:=[ByC (W.map bytF),U8R (.slice a7 fd.length c7) fd]) (D:=ByC ((W++[(⟨fp,.slice a7 fd.length c7,fd⟩:FileV)]).map bytF)) atks (fun h e=>by rw [List.map_append];exact z38 h e) ?_
          refine sw_pars2 ?_
          (refine apk ?_)
          refine then2_mk ?_
          (refine apk ?_)
          repeat' (first|((with_reducible apply z0c (E:=45));exact z0l;(exact qcl);intro b9;(refine apk ?_))|(first|((with_reducible apply z0t);exact ty_el;exact z03;rfl;rfl;rfl;intro bz;(refine apk ?_))|((with_reducible apply z0y);exact ty_el;exact z03;rfl;rfl;rfl;intro bz;(refine apk ?_)))|((with_reducible refine z0u ?_);(with_reducible apply z0k [(bz,.cells [.string (bs fp),.slice a7 fd.length c7].toArray 45 (0,0))]);(exact atks);intro r' hl';(with_reducible apply z0v (news:=[.string (bs fp),.slice a7 fd.length c7]));exact ty_el;exact z03;rfl;rfl;rfl;rfl;exact (Sl.lit (n:=1) (Lent.h1 hl') rfl (by simp [maxLen]));(exact atk);rfl;(unfold maxLen;omega);(omega);intro a' c';refine apm ?_)|exact xf|refine aw0 ?_|(refine ap2 ?_ ?_<;>try intro h)|refine aw1 ?_|(refine abx ?_;intro bb)|(refine abz ?_;intro bz)|(refine ahv ?_;intro v' hv')|(refine aac ?_;intro ac cc)|refine aw2 ?_|(refine ap4 ?_ ?_<;>try intro h)|apply True.intro)
          refine ⟨fun x hx2=>?_,W++[⟨fp,.slice a7 fd.length c7,fd⟩],a',c',by rw [htk,List.map_append,List.map_append,hW];rfl,?_⟩
          · rw [htk] at hx2
            rcases List.mem_append.1 hx2 with h|h
            · exact hall x h
            · obtain rfl:=List.mem_singleton.1 h;rfl
          · apply Exists.intro
            rw [List.length_append,List.length_singleton,List.flatMap_append,show [(⟨fp,.slice a7 fd.length c7,fd⟩:FileV)].flatMap encF=[.string (bs fp),.slice a7 fd.length c7] from rfl]
            (exact atks)
      · rintro H ⟨hall,W,a,c,hW,G,hp⟩
        rw [List.take_length] at hall hW
        have hwl:X.all (·.2)=true:=List.all_eq_true.2 hall
        have hp':=Takes.cons (Take.here (A:=PrtZ (.slice a1 4 c1) Z) (H:=DocR (.slice a2 ds.length c2) ds::H)) (Takes.cons (Take.here (A:=DocR (.slice a2 ds.length c2) ds) (H:=H)) hp)
        refine z01 hp' ?_
        clear hp hp'
        refine z0b (As:=[RowC 45 2 (.slice a W.length c) W.length (W.flatMap encF),ByC (W.map bytF)]) (D:=FilC (.slice a W.length c) (X.map (·.1))) atks (fun h e=>⟨W,hW,e⟩) ?_
        repeat' (first|((with_reducible apply z13 (c:= .region 14 _ _) (A:=PrtZ (.slice a1 4 c1) Z));(with_reducible (exact atk));intro r1 g1 hr1 hg1 hA1;obtain ⟨hP1,hP2,hP3,hP4⟩:=z4j hA1 hg1 hZ)|(refine acl Tryz.func125 ?_;refine acr (hpost _ _ hP4) ?_;rintro v' H' ⟨a3,c3,rfl,rfl⟩;refine apl ?_)|exact xf|refine aw0 ?_|(refine ap2 ?_ ?_<;>try intro h)|refine aw1 ?_|(refine abx ?_;intro bb)|(refine abz ?_;intro bz)|(refine ahv ?_;intro v' hv')|(refine aac ?_;intro ac cc)|refine aw2 ?_|(refine ap4 ?_ ?_<;>try intro h)|apply True.intro)
        all_goals ((with_reducible apply z00);exact res_Wc rfl rfl rfl atk z0a z08 rfl z0a (by (exact ard)))
        all_goals rcases hgp with ⟨rfl,hgp⟩ | ⟨rfl,hgp⟩
        · exact HR.out _ _ _ [DocR _ _,FilC _ _,PostC _ _ _ _] atks ⟨_,_,_,_,_,_,_,_,_,_,rfl,.inl ⟨rfl,p0,p1,p2,p3,qs,hpf,hgo,by rw [hXw];exact hwl,hgp,by rw [hds,hXc]⟩⟩
        · exact HR.out _ _ _ [] Takes.all ⟨_,_,_,_,_,_,_,_,_,_,rfl,.inr ⟨rfl,hnop hgp,rfl⟩⟩
      · rintro cd i H hi ⟨rfl,⟨x,hx,hxf⟩,a,n,c,G,hp⟩
        have hwl:X.all (·.2)=false:=by
         cases h:X.all (·.2)
         · rfl
         · have:=List.all_eq_true.1 h x hx;rw [hxf] at this;cases this
        have hn:=hbad hwl
        have hp':=Takes.cons (Take.here (A:=PrtZ (.slice a1 4 c1) Z) (H:=DocR (.slice a2 ds.length c2) ds::H)) (Takes.cons (Take.here (A:=DocR (.slice a2 ds.length c2) ds) (H:=H)) hp)
        refine z3u ?_
        refine blk_e ?_
        refine z62 ?_
        refine z01 hp' ?_
        clear hp hp'
        repeat' (first|((with_reducible apply z13 (c:= .region 14 _ _) (A:=PrtZ (.slice a1 4 c1) Z));(with_reducible (exact atk));intro r1 g1 hr1 hg1 hA1;obtain ⟨hP1,hP2,hP3,hP4⟩:=z4j hA1 hg1 hZ)|(refine acl Tryz.func125 ?_;refine acr (hpost _ _ hP4) ?_;rintro v' H' ⟨a3,c3,rfl,rfl⟩;refine apl ?_)|exact xf|refine aw0 ?_|(refine ap2 ?_ ?_<;>try intro h)|refine aw1 ?_|(refine abx ?_;intro bb)|(refine abz ?_;intro bz)|(refine ahv ?_;intro v' hv')|(refine aac ?_;intro ac cc)|refine aw2 ?_|(refine ap4 ?_ ?_<;>try intro h)|apply True.intro)
        all_goals ((with_reducible apply z00);exact res_Wc rfl rfl rfl atk z0a z08 rfl z0a (by (exact ard)))
        all_goals exact HR.out _ _ _ [] Takes.all ⟨_,_,_,_,_,_,_,_,_,_,rfl,.inr ⟨rfl,hn,rfl⟩⟩
  · have hn:openK b=none:=z4y fun _ _ _ _ e=>by rw [hpf] at e;cases e;exact h4 rfl
    refine ae Tryz.func52 Tryz.ntmps52 ?_
    repeat' (first|((with_reducible apply z0c (E:=114));exact z0l;(exact qcl);intro b2;(refine apk ?_))|((with_reducible apply z0c (E:=4));exact z0l;(exact qcl);intro b3;(refine apk ?_))|(refine acl Tryz.func122 ?_;refine acr (hg) ?_;rintro v' H' ⟨a1,c1,rfl,rfl⟩;refine apl ?_)|exact xf|refine aw0 ?_|(refine ap2 ?_ ?_<;>try intro h)|refine aw1 ?_|(refine abx ?_;intro bb)|(refine abz ?_;intro bz)|(refine ahv ?_;intro v' hv')|(refine aac ?_;intro ac cc)|refine aw2 ?_|(refine ap4 ?_ ?_<;>try intro h)|apply True.intro)
    ((with_reducible apply z00);exact res_Wc rfl rfl rfl atk z0a z08 rfl z0a (by (exact ard)))
    exact HR.out _ _ _ [] Takes.all ⟨_,_,_,_,_,_,_,_,_,_,rfl,.inr ⟨rfl,hn,rfl⟩⟩
theorem z7y (r:Hp) (v:Value) (ks:List KeyF) (h : ∃ Z:List FileV,Z.map FileV.key=ks/\Files r v Z) (hs:sizeF (ks.map unK)<=2000):Tri Tryz.prog r 10 [v] [] fun w H =>
 if filesOkK ks then ∃ a c,w = .tuple #[.slice a (shardB (ks.map unK)).length c,.int .i64 0]/\H=[U8R (.slice a (shardB (ks.map unK)).length c) (shardB (ks.map unK))] else w = .tuple #[.slice none 0 0,.int .i64 2]/\H=[]:=by
 obtain ⟨Z,rfl,hZ⟩:=h
 have h1:=ze7 r v Z hZ (by rw [z3j];exact hs)
 rw [z2l,z7p (z4h (Z.map FileV.key)).symm] at h1
 exact h1
theorem zd2 (r:Hp) (v:Value) (b:List UInt8) (hv:U8S r v b) (hb:Small b):Tri Tryz.prog r 16 [v] [] fun w H=>match openK b with
 | some ks => ∃ p,w = .tuple #[.pointer (some ⟨p,0,none⟩),.int .i64 0]/\H=[ShC p ks]
 | none=>w = .tuple #[.pointer none,.int .i64 9]/\H=[]:=by
 refine Tri.free2 fun R HR=>?_
 have hrd:=zm4 r v b hv hb
 refine ae Tryz.func16 Tryz.ntmps16 ?_
 repeat' (first|(refine acl Tryz.func52 ?_;refine acr (hrd) ?_;rintro v' H' ⟨ad,nd,cd,af,nf,cf,ap,np,cp,ok,rfl,⟨rfl,p0,p1,p2,p3,qs,e1,e2,e3,e4,rfl⟩ | ⟨rfl,hn,rfl⟩⟩;all_goals refine apl ?_)|((with_reducible apply z0c (E:=114));exact z0l;(exact qcl);intro b2;(refine apk ?_))|exact xf|refine aw0 ?_|(refine ap2 ?_ ?_<;>try intro h)|refine aw1 ?_|(refine abx ?_;intro bb)|(refine abz ?_;intro bz)|(refine ahv ?_;intro v' hv')|(refine aac ?_;intro ac cc)|refine aw2 ?_|(refine ap4 ?_ ?_<;>try intro h)|apply True.intro)
 · have hpl:=z3z e1
   have hcz:=(hb.2 _ _ _ _ e1).2 e2
   have ho:=z2j e1
   rw [e2,e3,Bool.true_and,Bool.true_and] at ho
   have hmk:=fun r' (h : ∃ Z:List FileV,Z.map FileV.key=cutsK p0.2 p1.2/\Files r' (.slice af nf cf) Z)=>z7y r' _ _ h (by omega)
   cases hok:filesOkK (cutsK p0.2 p1.2)
   · rw [hok] at ho hmk
     simp only [Bool.false_and,Bool.false_eq_true,if_false] at ho hmk
     rw [ho] at HR
     dsimp only at HR
     repeat' (first|((with_reducible refine z07 10 ?_);(with_reducible apply z05 (A:=FilC (.slice af nf cf) (cutsK p0.2 p1.2)));(exact atk);intro r1 g1 hr1 hg1 hA1;(refine acl Tryz.func10 ?_;refine acr (hmk r1 (z1f hA1 hg1)) ?_;rintro v' H' ⟨rfl,rfl⟩;refine apl ?_))|exact xf|refine aw0 ?_|(refine ap2 ?_ ?_<;>try intro h)|refine aw1 ?_|(refine abx ?_;intro bb)|(refine abz ?_;intro bz)|(refine ahv ?_;intro v' hv')|(refine aac ?_;intro ac cc)|refine aw2 ?_|(refine ap4 ?_ ?_<;>try intro h)|apply True.intro)
     ((with_reducible apply z00);exact res_2 rfl rfl rfl)
     exact HR.out _ _ _ [] Takes.all ⟨rfl,rfl⟩
   · rw [hok] at ho hmk
     simp only [Bool.true_and,if_true] at ho hmk
     by_cases heq:shardB ((cutsK p0.2 p1.2).map unK)=b
     · rw [decide_eq_true heq,if_pos rfl] at ho
       rw [heq] at hmk
       obtain ⟨d1,d2⟩:=z9o ho (zb1 hb ho) e1
       rw [e4] at d2
       injection d2 with d2
       rw [ho] at HR
       dsimp only at HR
       rw [d1,d2]
       generalize cutsK p0.2 p1.2=ks at hmk HR ⊢
       repeat' (first|((with_reducible refine z07 10 ?_);(with_reducible apply z05 (A:=FilC (.slice af nf cf) ks));(exact atk);intro r1 g1 hr1 hg1 hA1;(refine acl Tryz.func10 ?_;refine acr (hmk r1 (z1f hA1 hg1)) ?_;rintro v' H' ⟨a9,c9,rfl,rfl⟩;refine apl ?_))|((with_reducible refine z07 53 ?_);(with_reducible apply z05 (A:=U8R (.slice a9 b.length c9) b));(exact atk);intro r2 g2 hr2 hg2 hA2;(refine acl Tryz.func53 ?_;refine acr ((zaw r2 _ _ b b (hA2.sl hg2) (hv.mono hr2)).mono (R':=fun u H=>u = .bool true/\H=[]) (fun u H h=>by rwa [decide_eq_true rfl] at h)) ?_;rintro v' H' ⟨rfl,rfl⟩;refine apl ?_))|((with_reducible apply z2w);rfl;(exact qcl);intro b5;(refine apk ?_))|((with_reducible apply z0b (c:= .ret) (As:=[pt b5 (.cells [.pointer (some ⟨b2,0,none⟩)].toArray 54 (0,0)),pt b2 (.cells [.slice ad nd cd,.slice af nf cf,.slice ap np cp].toArray 114 (0,0)),DocR (.slice ad nd cd) (ks.map docOfK),FilC (.slice af nf cf) ks,PostC 145 149 (.slice ap np cp) (makeP (ks.map (·.2)))]) (D:=ShC b5 ks));((exact atks));(exact fun h e=>⟨b2,_,_,_,e⟩))|exact xf|refine aw0 ?_|(refine ap2 ?_ ?_<;>try intro h)|refine aw1 ?_|(refine abx ?_;intro bb)|(refine abz ?_;intro bz)|(refine ahv ?_;intro v' hv')|(refine aac ?_;intro ac cc)|refine aw2 ?_|(refine ap4 ?_ ?_<;>try intro h)|apply True.intro)
       ((with_reducible apply z00);exact res_2 rfl rfl rfl)
       exact HR.out _ _ _ [ShC _ _] atks ⟨_,rfl,rfl⟩
     · rw [decide_eq_false heq] at ho
       simp only [Bool.false_eq_true,if_false] at ho
       rw [ho] at HR
       dsimp only at HR
       generalize shardB ((cutsK p0.2 p1.2).map unK)=B at hmk heq
       repeat' (first|((with_reducible refine z07 10 ?_);(with_reducible apply z05 (A:=FilC (.slice af nf cf) (cutsK p0.2 p1.2)));(exact atk);intro r1 g1 hr1 hg1 hA1;(refine acl Tryz.func10 ?_;refine acr (hmk r1 (z1f hA1 hg1)) ?_;rintro v' H' ⟨a9,c9,rfl,rfl⟩;refine apl ?_))|((with_reducible refine z07 53 ?_);(with_reducible apply z05 (A:=U8R (.slice a9 B.length c9) B));(exact atk);intro r2 g2 hr2 hg2 hA2;(refine acl Tryz.func53 ?_;refine acr ((zaw r2 _ _ B b (hA2.sl hg2) (hv.mono hr2)).mono (R':=fun u H=>u = .bool false/\H=[]) (fun u H h=>by rwa [decide_eq_false heq] at h)) ?_;rintro v' H' ⟨rfl,rfl⟩;refine apl ?_))|exact xf|refine aw0 ?_|(refine ap2 ?_ ?_<;>try intro h)|refine aw1 ?_|(refine abx ?_;intro bb)|(refine abz ?_;intro bz)|(refine ahv ?_;intro v' hv')|(refine aac ?_;intro ac cc)|refine aw2 ?_|(refine ap4 ?_ ?_<;>try intro h)|apply True.intro)
       ((with_reducible apply z00);exact res_2 rfl rfl rfl)
       exact HR.out _ _ _ [] Takes.all ⟨rfl,rfl⟩
 · rw [hn] at HR
   dsimp only at HR
   ((with_reducible apply z00);exact res_2 rfl rfl rfl)
   exact HR.out _ _ _ [] Takes.all ⟨rfl,rfl⟩
theorem zoq (r:Hp) (v:Value) (b:List UInt8) (hv:U8S r v b) (hb:b.length<=1000000) (h:okF b=false):Tri Tryz.prog r 16 [v] [] fun w H=>w = .tuple #[.pointer none,.int .i64 9]/\H=[]:=by
 have h1:=zd2 r v b hv (zjx hb (zjy h))
 rw [zof h] at h1
 exact h1
theorem zm5 (r:Hp) (v:Value) (fs:List FileV) (hok:filesOk fs=true) (hs:sizeF fs<=1600) (hv:U8S r v (shardB fs)):Tri Tryz.prog r 16 [v] [] fun w H => ∃ p,w = .tuple #[.pointer (some ⟨p,0,none⟩),.int .i64 0]/\H=[ShC p (fs.map FileV.key)]:=by
 have h1:=zd2 r v (shardB fs) hv (zgu hok hs)
 rw [zgs hok (by omega)] at h1
 exact h1
end Go.Proofs.YtohpeoakdgckfaaGreat
