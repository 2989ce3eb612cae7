/- mudlarkref23.Files, Places: their contracts. -/
import Derived.Test.YtohpeoakdgckfaaGreatSv
import Derived.Test.YtohpeoakdgckfaaGreatRg
import Derived.Test.YtohpeoakdgckfaaGreatKm
import Derived.Test.YtohpeoakdgckfaaGreatOn
set_option maxHeartbeats 4000000
set_option maxRecDepth 10000
namespace Go.Proofs.YtohpeoakdgckfaaGreat
open Go.RowKit Sx
theorem rmakeK_any (r:Hp) (v:Value) (ks:List KeyF) (h : ∃ Z:List FileV,Z.map FileV.key=ks/\Files r v Z) (hs:sizeF (ks.map unK)<=2000):Tri Tryz.prog r 11 [v] [] fun w H =>
 if filesOkK ks then ∃ a c,w = .tuple #[.slice a (shardB (ks.map unK)).length c,.int .i64 0]/\H=[U8R (.slice a (shardB (ks.map unK)).length c) (shardB (ks.map unK))] else w = .tuple #[.slice none 0 0,.int .i64 2]/\H=[]:=by
 obtain ⟨Z,rfl,hZ⟩:=h
 have h1:=rsmake_any r v Z hZ (by rw [sizeF_key];exact hs)
 rw [filesOk_key,shardB_key (unK_key (Z.map FileV.key)).symm] at h1
 exact h1
theorem cutX_at {ds:List DocV} {b l:List UInt8} {j:Nat} (hj:j<ds.length) (hX:(cutX ds b).drop j=cutX (ds.drop j) l) (h0:0<=(ds.getD j default).size) : ∃ hi:j<(cutX ds b).length,
 ((l.length:Int)<(ds.getD j default).size->(cutX ds b)[j].2=false) /\
 ((ds.getD j default).size<=l.length->(cutX ds b)[j]=(((ds.getD j default).path,l.take (ds.getD j default).size.toNat),true)/\(cutX ds b).drop (j+1)=cutX (ds.drop (j+1)) (l.drop (ds.getD j default).size.toNat)):=by
 have hjX:j<(cutX ds b).length:=by rw [cutX_len];exact hj
 refine ⟨hjX,?_⟩
 rw [List.drop_eq_getElem_cons hjX,List.drop_eq_getElem_cons hj,show ds[j]=ds.getD j default by rw [List.getD_eq_getElem?_getD,List.getElem?_eq_getElem hj];rfl,cutX] at hX
 injection hX with hx hX2
 generalize ds.getD j default=d at *
 refine ⟨fun h=>by rw [hx];exact decide_eq_false (by omega),fun h=>?_⟩
 have hm:min d.size.toNat l.length=d.size.toNat:=by omega
 rw [hm] at hx hX2
 exact ⟨by rw [hx,decide_eq_true (by omega)],hX2⟩
theorem rfiles23_any (r:Hp) (v:Value) (b:List UInt8) (hv:U8S r v b) (hb:b.length<=2000):Tri Tryz.prog r 17 [v] [] fun w H=>match openK b with
 | some ks => ∃ a c,w = .tuple #[.slice a ks.length c,.int .i64 0]/\H=[FilC (.slice a ks.length c) ks]
 | none=>w = .tuple #[.slice none 0 0,.int .i64 9]/\H=[]:=by
 refine Tri.free2 fun R HR=>?_
 have hg:=rfget_any r v b hv (by omega)
 cases hpf:partsF b with
 | none =>
  rw [hpf] at hg
  dsimp only at hg
  rw [openK_not fun _ _ _ _ e=>by rw [hpf] at e;cases e] at HR
  dsimp only at HR
  refine ae Tryz.func17 Tryz.ntmps17 ?_
  repeat' (first|(refine acl Tryz.func20 ?_;refine acr (hg) ?_;rintro v' H' ⟨rfl,rfl⟩;refine apl ?_)|exact xf|refine aw0 ?_|(refine ap2 ?_ ?_<;>try intro h)|refine aw1 ?_|(refine abx ?_;intro bb)|(refine abz ?_;intro bz)|(refine ahv ?_;intro v' hv')|(refine aac ?_;intro ac cc)|refine aw2 ?_|(refine ap4 ?_ ?_<;>try intro h)|apply True.intro)
  ((with_reducible apply fp_ret);exact res_2 rfl rfl rfl)
  exact HR.out _ _ _ [] Takes.all ⟨rfl,rfl⟩
 | some ps =>
  rw [hpf] at hg
  dsimp only at hg
  by_cases h4:ps.length=4
  · obtain ⟨p0,p1,p2,p3,rfl⟩ : ∃ p0 p1 p2 p3,ps=[p0,p1,p2,p3]:=by
     match ps,h4 with
     | [a,b,c,d],_=>exact ⟨a,b,c,d,rfl⟩
    have hpl:=parts4_len hpf
    rw [show ([p0,p1,p2,p3]:List PartP).length=4 from rfl] at hg
    have hdoc:=fun r' v' (h:U8S r' v' p0.2)=>rget_any r' v' p0.2 h (by omega)
    rw [refGetOk_eq] at hdoc
    cases hgo:getOk p0.2
    · rw [hgo] at hdoc
      simp only [Bool.false_eq_true,if_false] at hdoc
      rw [show openK b=none by rw [openK_four hpf,hgo];rfl] at HR
      dsimp only at HR
      refine ae Tryz.func17 Tryz.ntmps17 ?_
      repeat' (first|(refine acl Tryz.func20 ?_;refine acr (hg) ?_;rintro v' H' ⟨a1,c1,rfl,rfl⟩;refine apl ?_)|((with_reducible apply sw_open (A:=PrtC (.slice a1 4 c1) [p0,p1,p2,p3]) (ι:=List PartV) (B:=fun Z=>[PrtZ (.slice a1 4 c1) Z]) (φ:=fun Z=>Z.map pOf=[p0,p1,p2,p3]));(with_reducible (exact atk));(exact fun h ⟨Z,h1,h2⟩=>⟨Z,h1,all_one.2 h2⟩);(rintro Z hZ);(simp only [List.nil_append,List.cons_append]);(have hZl:Z.length=4:=(by have h:=congrArg List.length hZ;rwa [List.length_map] at h)))|((with_reducible apply sw_lendQ (c:= .region 4 _ _) (A:=PrtZ (.slice a1 4 c1) Z));(with_reducible (exact atk));intro r1 g1 hr1 hg1 hA1;obtain ⟨hP1,hP2,hP3,hP4⟩:=prtZ_at hA1 hg1 hZ)|(refine acl Tryz.func54 ?_;refine acr (hdoc _ _ hP2) ?_;rintro v' H' ⟨rfl,rfl⟩;refine apl ?_)|exact xf|refine aw0 ?_|(refine ap2 ?_ ?_<;>try intro h)|refine aw1 ?_|(refine abx ?_;intro bb)|(refine abz ?_;intro bz)|(refine ahv ?_;intro v' hv')|(refine aac ?_;intro ac cc)|refine aw2 ?_|(refine ap4 ?_ ?_<;>try intro h)|apply True.intro)
      ((with_reducible apply fp_ret);exact res_2 rfl rfl rfl)
      exact HR.out _ _ _ [] Takes.all ⟨rfl,rfl⟩
    · rw [hgo] at hdoc
      simp only [if_true] at hdoc
      obtain ⟨ds,hds⟩ : ∃ ds,(getDocs p0.2).1=ds:=⟨_,rfl⟩
      have hdk:docsOk ds=true:=by
       have hgo:=hgo
       unfold getOk at hgo
       rw [← hds]
       simp only [Bool.and_eq_true] at hgo
       exact hgo.2
      have hdl:=docsR_bd (numR 4000 (some p0.2)).1 (numR 4000 (some p0.2)).2
      rw [show docsR (numR 4000 (some p0.2)).1 (numR 4000 (some p0.2)).2=getDocs p0.2 from rfl,hds] at hdl
      have hdl2:=numR_most 4000 (some p0.2)
      rw [show ((4000:Nat):Int)=4000 from rfl] at hdl2
      have hdl:=hdl.1
      have hsz:=docsOk_size hdk
      rw [hds] at hdoc
      obtain ⟨X,hX0⟩ : ∃ X,cutX ds p1.2=X:=⟨_,rfl⟩
      have hXc:cutsK p0.2 p1.2=X.map (·.1):=by rw [← hX0,← hds];rfl
      have hXw:wholeK p0.2 p1.2=X.all (·.2):=by rw [← hX0,← hds];rfl
      have hXl:X.length=ds.length:=by rw [← hX0,cutX_len]
      have hbad:X.all (·.2)=false->openK b=none:=fun h=>by rw [openK_four hpf,hXw,h,hgo];rfl
      have hcz:=cutsK_size (m:=p1.2) hgo
      have ho:=openK_four hpf
      rw [hXc] at hcz ho
      rw [hXw,hgo,Bool.true_and] at ho
      refine ae Tryz.func17 Tryz.ntmps17 ?_
      refine sw_put (A:=RowC 45 2 (.slice none 0 0) 0 []) (RowC.nil _ _) ?_
      refine sw_put (A:=ByC []) rfl ?_
      repeat' (first|(refine acl Tryz.func20 ?_;refine acr (hg) ?_;rintro v' H' ⟨a1,c1,rfl,rfl⟩;refine apl ?_)|((with_reducible apply sw_open (A:=PrtC (.slice a1 4 c1) [p0,p1,p2,p3]) (ι:=List PartV) (B:=fun Z=>[PrtZ (.slice a1 4 c1) Z]) (φ:=fun Z=>Z.map pOf=[p0,p1,p2,p3]));(with_reducible (exact atk));(exact fun h ⟨Z,h1,h2⟩=>⟨Z,h1,all_one.2 h2⟩);(rintro Z hZ);(simp only [List.nil_append,List.cons_append]);(have hZl:Z.length=4:=(by have h:=congrArg List.length hZ;rwa [List.length_map] at h)))|((with_reducible apply sw_lendQ (c:= .region 4 _ _) (A:=PrtZ (.slice a1 4 c1) Z));(with_reducible (exact atk));intro r1 g1 hr1 hg1 hA1;obtain ⟨hP1,hP2,hP3,hP4⟩:=prtZ_at hA1 hg1 hZ)|(refine acl Tryz.func54 ?_;refine acr (hdoc _ _ hP2) ?_;rintro v' H' ⟨a2,c2,rfl,rfl⟩;refine apl ?_)|exact xf|refine aw0 ?_|(refine ap2 ?_ ?_<;>try intro h)|refine aw1 ?_|(refine abx ?_;intro bb)|(refine abz ?_;intro bz)|(refine ahv ?_;intro v' hv')|(refine aac ?_;intro ac cc)|refine aw2 ?_|(refine ap4 ?_ ?_<;>try intro h)|apply True.intro)
      refine sw_lendQ (A:=PrtZ (.slice a1 4 c1) Z) atk fun r2 g2 hr2 hg2 hA2=>?_
      refine sw_lendQ (A:=DocR (.slice a2 ds.length c2) ds) atk fun r3 g3 hr3 hg3 hA3=>?_
      obtain ⟨hQ1,hQ2,hQ3,hQ4⟩:=prtZ_at hA2 hg2 hZ
      have hQ1:=hQ1.mono hr3
      have hQ3:=hQ3.mono hr3
      have hD:Els r3 4 encD (.slice a2 ds.length c2) ds:=⟨fun _=>rfl,hA3.sl hg3⟩
      obtain ⟨u1,hu1⟩ : ∃ u,(Z.getD 1 default).val=u:=⟨_,rfl⟩
      have hu2:(Z.getD (Int.toNat 1) default).val=u1:=hu1
      rw [hu1] at hQ3
      clear hQ2 hQ4 hA3 hA2
      refine sw_loop (fun gm t H' => ∃ (j q:Nat) (W:List FileV) (a:Option Addr) (c:Nat),gm=ds.length+1 - j/\(j<=ds.length)/\(q<=p1.2.length)/\(X.drop j=cutX (ds.drop j) (p1.2.drop q))/\(∀ x∈X.take j,x.2=true)/\(W.map FileV.key=(X.take j).map (·.1))/\(∃ G,Takes [RowC 45 2 (.slice a W.length c) W.length (W.flatMap encF),ByC (W.map bytF)] H' G)/\Sls t 100 [(0,v),(4,.slice a1 4 c1),(6,.slice a2 ds.length c2),(8,.slice a W.length c),(9,.int .i64 q),(10,.int .i64 j)]) _ ⟨0,0,[],none,0,rfl,Nat.zero_le _,Nat.zero_le _,hX0.symm,(fun x hx=>by simp at hx),rfl,⟨_,atks⟩,asls⟩ ?_
      rintro gm t H' ⟨j,q,W,a,c,rfl,hj,hq,hX,hall,hW,⟨G,hp⟩,hs'⟩
      revert t;refine sls_all ?_;iterate 94 intro uu'
      refine sw_takeG hp ?_;clear hp
      have hWl:W.length=j:=by have h:=congrArg List.length hW;rw [List.length_map,List.length_map,List.length_take] at h;omega
      by_cases hlt:j<ds.length
      · have hsz:=hsz _ (getD_mem hlt)
        rw [← hX0] at hX
        obtain ⟨hi,hA,hB⟩:=cutX_at hlt hX hsz.1
        rw [List.length_drop] at hA hB
        obtain ⟨d,hd⟩ : ∃ d,ds.getD j default=d:=⟨_,rfl⟩
        rw [hd] at hsz hA hB
        have hde:encD d=[.string (bs d.path),.string (bs d.lang),.int .u32 d.sum,.int .i64 d.size]:=rfl
        by_cases hle:d.size<=((p1.2.length - q:Nat):Int)
        · obtain ⟨hB1,hB2⟩:=hB hle
          obtain ⟨n,hn⟩ : ∃ n:Nat,d.size=n:=⟨d.size.toNat,by omega⟩
          rw [hn] at hle hB1 hB2 hsz
          rw [Int.toNat_natCast] at hB1 hB2
          obtain ⟨D,hDd⟩ : ∃ D,(p1.2.drop q).take n=D:=⟨_,rfl⟩
          have hDl:D.length=n:=by rw [← hDd,List.length_take,List.length_drop];omega
          have hcut:List.take (((q:Int)+(n:Int)).toNat - ((q:Nat):Int).toNat) (List.drop ((q:Nat):Int).toNat p1.2)=D:=by
           rw [Int.toNat_natCast,show ((q:Int)+(n:Int)).toNat - q=n by omega,hDd]
          rw [hDd] at hB1
          have htk:X.take (j+1)=X.take j++[((d.path,D),true)]:=by rw [← hX0,List.take_succ_eq_append_getElem hi,hB1]
          rw [hX0,List.drop_drop] at hB2
          clear hA hB hB1
          obtain ⟨dp,dl,dm,dz⟩:=d
          dsimp only at hn hde htk
          subst hn
          have hdz:(ds.getD j default).size=(n:Int):=by rw [hd]
          have hdp:(ds.getD j default).path=dp:=by rw [hd]
          clear hd
          repeat' (first|(rw [hdz])|(rw [hdp])|(rw [hu2])|(rw [hcut] at hv')|((with_reducible apply sw_draw (id:=12) 13 [(0,true),(1,true),(2,true),(3,true),(4,true),(5,true),(6,true),(7,true),(8,true),(9,true),(10,true),(11,true),(12,true)] [] []);kernel_rfl;(exact atks);kernel_rfl;intro r' hl')|((with_reducible apply sw_draw (id:=14) 24 [(0,true),(1,true),(2,true),(3,true),(4,true),(5,true),(7,true),(8,true),(9,true),(10,true),(11,true),(12,true),(13,true),(14,true),(15,true),(16,true),(17,true),(18,true),(19,true),(6,false),(20,false),(21,true),(22,false),(23,false)] [(24,false)] []);kernel_rfl;(exact atks);kernel_rfl;intro r' hl')|((with_reducible apply kx_bs0R);exact ty_el;exact ty_inf;intro bz0;(refine apk ?_))|((with_reducible refine swo_isApp ?_);(with_reducible apply kx_appS (news:=u8s D));exact ty_el;exact ty_inf;rfl;rfl;rfl;rfl;exact hv';(exact atk);exact (u8s_one _);(unfold maxLen;omega);(omega);intro a7 c7;refine apm ?_)|(simp only [Nat.zero_add])|(first|((with_reducible apply kx_bs1);exact ty_el;exact ty_inf;rfl;rfl;rfl;intro bz;(refine apk ?_))|((with_reducible apply kx_bsN);exact ty_el;exact ty_inf;rfl;rfl;rfl;intro bz;(refine apk ?_)))|((with_reducible refine swo_isApp ?_);(with_reducible apply kx_lend [(bz,.cells [.string (bs dp),.slice a7 D.length c7].toArray 45 (0,0))]);(exact atks);intro r9 hl9;(with_reducible apply kx_appS (news:=[.string (bs dp),.slice a7 D.length c7]));exact ty_el;exact ty_inf;rfl;rfl;rfl;rfl;exact (Sl.lit (n:=1) (Lent.h1 hl9) rfl (by simp [maxLen]));(exact atk);rfl;(unfold maxLen;omega);(omega);intro a' c';refine apm ?_)|((with_reducible apply sw_joinA (c:= .region 15 _ _) (As:=[ByC (W.map bytF),U8R (.slice a7 D.length c7) D]) (D:=ByC ((W++[(⟨dp,.slice a7 D.length c7,D⟩:FileV)]).map bytF)));((exact atks));(exact fun h e=>by rw [List.map_append];exact byC_snoc h e))|exact xf|refine aw0 ?_|(refine ap2 ?_ ?_<;>try intro h)|refine aw1 ?_|(refine abx ?_;intro bb)|(refine abz ?_;intro bz)|(refine ahv ?_;intro v' hv')|(refine aac ?_;intro ac cc)|refine aw2 ?_|(refine ap4 ?_ ?_<;>try intro h)|apply True.intro)
          have hnx:(W++[(⟨dp,.slice a7 D.length c7,D⟩:FileV)]).map FileV.key=(X.take (j+1)).map (·.1):=by rw [htk,List.map_append,List.map_append,hW];rfl
          have hwn:(W++[(⟨dp,.slice a7 D.length c7,D⟩:FileV)]).length=W.length+1:=by rw [List.length_append];rfl
          have hal : ∀ x∈X.take (j+1),x.2=true:=fun x hx=>by
           rw [htk] at hx
           rcases List.mem_append.1 hx with h|h
           · exact hall x h
           · obtain rfl:=List.mem_singleton.1 h;rfl
          exact ⟨_,by omega,j+1,q+n,W++[(⟨dp,.slice a7 D.length c7,D⟩:FileV)],a',c',rfl,by omega,by omega,hB2,hal,hnx,⟨_,by rw [hwn,List.flatMap_append];exact atks⟩,asls⟩
        · have hf:=hA (by omega)
          have hxm:(cutX ds p1.2)[j]∈X:=hX0 ▸ List.getElem_mem hi
          have hn:=hbad (by
           cases h:X.all (·.2)
           · rfl
           · have:=List.all_eq_true.1 h _ hxm;rw [hf] at this;cases this)
          rw [hn] at HR
          dsimp only at HR
          repeat' (first|(rw [hd])|(rw [hu2])|((with_reducible apply sw_draw (id:=12) 13 [(0,true),(1,true),(2,true),(3,true),(4,true),(5,true),(6,true),(7,true),(8,true),(9,true),(10,true),(11,true),(12,true)] [] []);kernel_rfl;(exact atks);kernel_rfl;intro r' hl')|exact xf|refine aw0 ?_|(refine ap2 ?_ ?_<;>try intro h)|refine aw1 ?_|(refine abx ?_;intro bb)|(refine abz ?_;intro bz)|(refine ahv ?_;intro v' hv')|(refine aac ?_;intro ac cc)|refine aw2 ?_|(refine ap4 ?_ ?_<;>try intro h)|apply True.intro)
          ((with_reducible apply fp_ret);exact res_2 rfl rfl rfl)
          exact HR.out _ _ _ [] Takes.all ⟨rfl,rfl⟩
      · obtain rfl:j=ds.length:=by omega
        rw [show ds.length=X.length from hXl.symm,List.take_length] at hall hW
        have hwl:X.all (·.2)=true:=List.all_eq_true.2 hall
        rw [hwl,Bool.true_and] at ho
        refine sw_joinA (As:=[RowC 45 2 (.slice a W.length c) W.length (W.flatMap encF),ByC (W.map bytF)]) (D:=FilC (.slice a W.length c) (X.map (·.1))) atks (fun h e=>⟨W,hW,e⟩) ?_
        have hmk:=fun r' (h : ∃ Z:List FileV,Z.map FileV.key=X.map (·.1)/\Files r' (.slice a W.length c) Z)=>rmakeK_any r' _ _ h (by omega)
        have hKl:(X.map (·.1)).length=W.length:=by rw [← hW,List.length_map]
        generalize X.map (·.1)=ks at ho hmk hKl ⊢
        cases hok:filesOkK ks
        · rw [hok] at ho hmk
          simp only [Bool.false_and,Bool.false_eq_true,if_false] at ho hmk
          rw [ho] at HR
          dsimp only at HR
          repeat' (first|((with_reducible refine swo_isCall 11 ?_);(with_reducible apply kx_lendC (A:=FilC (.slice a W.length c) ks));(exact atk);intro r5 g5 hr5 hg5 hA5;(refine acl Tryz.func11 ?_;refine acr (hmk r5 (filC_files hA5 hg5)) ?_;rintro v' H' ⟨rfl,rfl⟩;refine apl ?_))|exact xf|refine aw0 ?_|(refine ap2 ?_ ?_<;>try intro h)|refine aw1 ?_|(refine abx ?_;intro bb)|(refine abz ?_;intro bz)|(refine ahv ?_;intro v' hv')|(refine aac ?_;intro ac cc)|refine aw2 ?_|(refine ap4 ?_ ?_<;>try intro h)|apply True.intro)
          ((with_reducible apply fp_ret);exact res_2 rfl rfl rfl)
          exact HR.out _ _ _ [] Takes.all ⟨rfl,rfl⟩
        · rw [hok] at ho hmk
          simp only [Bool.true_and,if_true] at ho hmk
          generalize shardB (ks.map unK)=B at hmk ho
          by_cases heq:B=b
          · subst heq
            rw [decide_eq_true rfl,if_pos rfl] at ho
            rw [ho] at HR
            dsimp only at HR
            repeat' (first|((with_reducible refine swo_isCall 11 ?_);(with_reducible apply kx_lendC (A:=FilC (.slice a W.length c) ks));(exact atk);intro r5 g5 hr5 hg5 hA5;(refine acl Tryz.func11 ?_;refine acr (hmk r5 (filC_files hA5 hg5)) ?_;rintro v' H' ⟨a9,c9,rfl,rfl⟩;refine apl ?_))|((with_reducible apply kx_b2s);exact ty_el;kernel_rfl;kernel_rfl;rfl;(exact atk);(refine apk ?_))|((with_reducible apply kx_b2sr);exact ty_el;kernel_rfl;kernel_rfl;rfl;exact hv;(refine apk ?_))|exact xf|refine aw0 ?_|(refine ap2 ?_ ?_<;>try intro h)|refine aw1 ?_|(refine abx ?_;intro bb)|(refine abz ?_;intro bz)|(refine ahv ?_;intro v' hv')|(refine aac ?_;intro ac cc)|refine aw2 ?_|(refine ap4 ?_ ?_<;>try intro h)|apply True.intro)
            ((with_reducible apply fp_ret);exact res_2 rfl rfl rfl)
            exact HR.out _ _ _ [FilC _ _] atks ⟨a,c,by rw [hKl],by rw [hKl]⟩
          · rw [decide_eq_false heq] at ho
            simp only [Bool.false_eq_true,if_false] at ho
            rw [ho] at HR
            dsimp only at HR
            repeat' (first|((with_reducible refine swo_isCall 11 ?_);(with_reducible apply kx_lendC (A:=FilC (.slice a W.length c) ks));(exact atk);intro r5 g5 hr5 hg5 hA5;(refine acl Tryz.func11 ?_;refine acr (hmk r5 (filC_files hA5 hg5)) ?_;rintro v' H' ⟨a9,c9,rfl,rfl⟩;refine apl ?_))|((with_reducible apply kx_b2s);exact ty_el;kernel_rfl;kernel_rfl;rfl;(exact atk);(refine apk ?_))|((with_reducible apply kx_b2sr);exact ty_el;kernel_rfl;kernel_rfl;rfl;exact hv;(refine apk ?_))|exact xf|refine aw0 ?_|(refine ap2 ?_ ?_<;>try intro h)|refine aw1 ?_|(refine abx ?_;intro bb)|(refine abz ?_;intro bz)|(refine ahv ?_;intro v' hv')|(refine aac ?_;intro ac cc)|refine aw2 ?_|(refine ap4 ?_ ?_<;>try intro h)|apply True.intro)
            ((with_reducible apply fp_ret);exact res_2 rfl rfl rfl)
            exact HR.out _ _ _ [] Takes.all ⟨rfl,rfl⟩
  · rw [openK_not fun _ _ _ _ e=>by rw [hpf] at e;cases e;exact h4 rfl] at HR
    dsimp only at HR
    refine ae Tryz.func17 Tryz.ntmps17 ?_
    repeat' (first|(refine acl Tryz.func20 ?_;refine acr (hg) ?_;rintro v' H' ⟨a1,c1,rfl,rfl⟩;refine apl ?_)|exact xf|refine aw0 ?_|(refine ap2 ?_ ?_<;>try intro h)|refine aw1 ?_|(refine abx ?_;intro bb)|(refine abz ?_;intro bz)|(refine ahv ?_;intro v' hv')|(refine aac ?_;intro ac cc)|refine aw2 ?_|(refine ap4 ?_ ?_<;>try intro h)|apply True.intro)
    ((with_reducible apply fp_ret);exact res_2 rfl rfl rfl)
    exact HR.out _ _ _ [] Takes.all ⟨rfl,rfl⟩
end Go.Proofs.YtohpeoakdgckfaaGreat
