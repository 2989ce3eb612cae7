/- In: postings by insertion: what it makes of the trigrams is what makeP tells. -/
import Derived.Test.YtohpeoakdgckfaaGreatGr
import Derived.Test.YtohpeoakdgckfaaGreatEm
import Derived.Test.YtohpeoakdgckfaaGreatMs
import Derived.Test.YtohpeoakdgckfaaGreatPf
set_option maxHeartbeats 2000000
set_option maxRecDepth 10000
namespace Go.Proofs.YtohpeoakdgckfaaGreat
open Go.RowKit Go.Maps Go.Sort Sx
theorem z79 (a b:List UInt8):Op.bytesLess a b=true↔a<b:=by rw [bytesLess_eq,decide_eq_true_eq]
theorem ziu {a b:List UInt8} (h:¬ a<b) (k:¬ a=b):b<a:=by
 rcases List.le_iff_lt_or_eq.1 (List.not_lt.1 h) with h|h
 · exact h
 · exact absurd h.symm k
theorem zm6 {a b:List UInt8}:(!(Op.bytesLess a b || decide (a=b)))=true↔b<a:=by
 rw [Bool.not_eq_true',Bool.or_eq_false_iff,decide_eq_false_iff_not,← Bool.not_eq_true,z79]
 constructor
 · rintro ⟨h1,h2⟩;exact ziu h1 h2
 · intro h
   exact ⟨fun h2=>List.lt_asymm h h2,fun e=>by subst e;exact List.lt_irrefl _ h⟩
theorem zbh : ∀ {ps:List PostP} {last:List UInt8},(∀ x∈ps,postOk x=true)->(ps.map (·.1)).Pairwise (· < ·)->(∀ x∈ps,last<x.1)->postsOk last ps=true
 | [],_,_,_,_=>rfl
 | x::ps,last,h,hp,hl=>by
  rw [postsOk,Bool.and_eq_true,Bool.and_eq_true,zm6]
  rw [List.map_cons,List.pairwise_cons] at hp
  exact ⟨⟨h x List.mem_cons_self,hl x List.mem_cons_self⟩,zbh (fun y hy=>h y (List.mem_cons_of_mem _ hy)) hp.2 (fun y hy=>hp.1 _ (List.mem_map_of_mem hy))⟩
def encSt (s:List UInt8):List Value:=[.string (bs s)]
theorem zm7 (l:List (List UInt8)):l.map Go.Proofs.encStr=l.flatMap encSt:=by
 induction l with
 | nil=>rfl
 | cons x l ih=>rw [List.map_cons,ih];rfl
abbrev GC (b m:Nat) (O:List (List UInt8 × PlaceV)):Ch:=PlC Tryz.prog 9 149 b m (grams O)
theorem zow (r:Hp) (v:Value) (bv:List BytV) (hv:Rowz r v bv) (hn:bv.length<=10000000) (hl:tot (bv.map (·.data)) bv.length<=10000000):Tri Tryz.prog r 36 [v] [] fun w H =>
 ∃ a c,w = .slice a (makeP (bv.map (·.data))).length c/\H=[PostC 145 149 w (makeP (bv.map (·.data)))]:=by
 refine Tri.free2 fun R HR=>?_
 obtain ⟨ds,hds⟩ : ∃ ds,bv.map (·.data)=ds:=⟨_,rfl⟩
 have hdl:ds.length=bv.length:=by rw [← hds,List.length_map]
 have hat : ∀ k,k<bv.length->ds.getD k []=(bv.getD k default).data:=fun k hk=>by
  rw [← hds,List.getD_eq_getElem?_getD,List.getD_eq_getElem?_getD,List.getElem?_map,List.getElem?_eq_getElem hk];rfl
 rw [hds] at HR hl
 have hve:=hv.1
 refine ae Tryz.func36 Tryz.ntmps36 ?_
 repeat' (first|refine aw0m ?_|(refine ap2 ?_ ?_<;>try intro h)|((with_reducible apply zor 9);intro b;(refine apk ?_))|refine aw1m ?_|(refine abx ?_;intro bb)|(refine abz ?_;intro bz)|(refine ahv ?_;intro v' hv')|(refine aac ?_;intro ac cc)|refine aw2 ?_|(refine ap4 ?_ ?_<;>try intro h)|apply True.intro)
 refine z2z (A:=MapC Tryz.prog 9 b 0 (fun _=>none)) (B:=GC b 0 []) atk (fun h e=>PlC.nil h e) ?_
 refine z04 (fun gm t H' => ∃ (k m:Nat),gm=bv.length+1 - k/\(k<=bv.length)/\(m<=tot ds k)/\(∃ G,Takes [GC b m (occs ds k)] H' G)/\Sls t 61 [(2,.slice none 0 0),(3,.map (some b)),(12,v),(13,.int .i64 bv.length),(14,.int .i64 k)]) _ ⟨0,0,rfl,Nat.zero_le _,Nat.zero_le _,⟨[],atks⟩,asls⟩ ?_
 rintro gm t H' ⟨k,m,rfl,hk,hm,⟨G,hp⟩,hs'⟩
 revert t;refine z06 ?_;iterate 56 intro uu'
 refine z01 hp ?_;clear hp
 by_cases hlt:k<bv.length
 · have hb:=hv.2 _ (List.getElem_mem hlt)
   have hbe:bv[k]=bv.getD k default:=by rw [List.getD_eq_getElem?_getD,List.getElem?_eq_getElem hlt];rfl
   rw [hbe] at hb
   have hdk:=hat k hlt
   have htk:tot ds k+(bv.getD k default).data.length<=10000000:=by
    have:=z91 ds (show k+1<=bv.length from hlt)
    rw [show tot ds (k+1)=tot ds k+(ds.getD k []).length from rfl,hdk] at this
    omega
   have hxl:(bv.getD k default).data.length<=10000000:=by omega
   repeat' (first|refine aw0m ?_|(refine ap2 ?_ ?_<;>try intro h)|refine aw1m ?_|(refine abx ?_;intro bb)|(refine abz ?_;intro bz)|(refine ahv ?_;intro v' hv')|(refine aac ?_;intro ac cc)|refine aw2 ?_|(refine ap4 ?_ ?_<;>try intro h)|apply True.intro)
   generalize bv.getD k default=x at hb hdk htk hxl ⊢
   refine z04 (fun gm t H' => ∃ (i m:Nat),gm=x.data.length+1 - i/\(i<=x.data.length)/\(m<=tot ds k+i)/\(∃ G,Takes [GC b m (occs ds k++occD k x.data i)] H' G)/\Sls t 61 [(2,.slice none 0 0),(3,.map (some b)),(4,.int .i64 k),(5,x.val),(12,v),(13,.int .i64 bv.length),(14,.int .i64 k),(20,.int .i64 x.data.length),(21,.int .i64 i)]) _ ⟨0,m,rfl,Nat.zero_le _,by omega,⟨_,by rw [show occD k x.data 0=[] from rfl,List.append_nil];(exact atks)⟩,asls⟩ ?_
   rintro gm t H' ⟨i,m,rfl,hi,hm,⟨G,hp⟩,hs'⟩
   revert t;refine z06 ?_;iterate 52 intro uu'
   refine z01 hp ?_;clear hp
   by_cases hlt1:i<x.data.length
   · have ha:=zst r x.val x.data i hb (by omega)
     have hO:occD k x.data (i+1)=occD k x.data i++(if gramAt x.data i then [((x.data.drop i).take 3,⟨k,i⟩)] else []):=rfl
     by_cases hg:gramAt x.data i=true
     · rw [if_pos hg] at ha hO
       repeat' (first|refine aw0m ?_|(refine ap2 ?_ ?_<;>try intro h)|(refine acl Tryz.func89 ?_;refine acr (ha) ?_;rintro v' H' ⟨rfl,rfl⟩;refine apl ?_)|refine aw1m ?_|(refine abx ?_;intro bb)|(refine abz ?_;intro bz)|(refine ahv ?_;intro v' hv')|(refine aac ?_;intro ac cc)|refine aw2 ?_|(refine ap4 ?_ ?_<;>try intro h)|apply True.intro)
       rw [show ((i:Int).toNat)=i from rfl]
       have hgl:((x.data.drop i).take 3).length<=maxLen:=by rw [List.length_take];unfold maxLen;omega
       have hnl:(getG (grams (occs ds k++occD k x.data i)) ((x.data.drop i).take 3)).length<=20000000:=by
        have h1:=z5b (occs ds k++occD k x.data i) ((x.data.drop i).take 3)
        have h2:=z7c ds k
        have h3:=z7b k x.data i
        rw [List.length_append] at h1
        omega
       generalize hgr:(x.data.drop i).take 3=g at hO hgl hnl ⊢
       refine zmg (A:=GC b m (occs ds k++occD k x.data i)) atk (PlC.out g) ?_
       rintro ⟨w0,M,F⟩ ⟨hv0,hsh⟩
       dsimp only [List.cons_append,List.nil_append] at hv0 hsh ⊢
       generalize hGG:getG (grams (occs ds k++occD k x.data i)) g=L at hsh hnl ⊢
       have hfin : ∀ a' c' M',(∀ x,M' (.string x)=if x=g then some (.slice a' (L.length+1) c') else M (.string x)) -> ∀ h',all [MapC Tryz.prog 9 b (m+1) M',RowC 149 2 (.slice a' (L.length+1) c') (L.length+1) (L.flatMap encPl++[.int .i64 k,.int .i64 i]),F] h'->GC b (m+1) (occs ds k++occD k x.data (i+1)) h':=fun a' c' M' hM' h' e=>by
        have h1:=hsh (.slice a' (L.length+1) c') (L++[⟨k,i⟩]) (m+1) M' hM' h' (by rw [List.length_append,List.flatMap_append];exact e)
        unfold GC
        rw [hO,← List.append_assoc,zbk,hGG]
        exact h1
       repeat' (first|((with_reducible apply zoz (kt:=9) (et:=62));kernel_rfl;exact Tryz.underlying9;exact z0l;rfl;rfl;exact hgl;(exact atk);exact hv0;(refine apk ?_))|(first|((with_reducible apply z0d);exact ty_el;exact z03;rfl;rfl;rfl;(exact atk);(exact atk);rfl;omega;intro a' c';(refine apk ?_))|((with_reducible apply z0m);exact ty_el;exact z03;rfl;rfl;rfl;rfl;(exact atk);(exact atk);rfl;rfl;omega;intro a' c';(refine apk ?_)))|((with_reducible apply zp1 (kt:=9) (et:=62));kernel_rfl;exact Tryz.underlying9;rfl;rfl;rfl;exact hgl;(exact atk);(unfold maxLen;omega);intro M' hM';(refine apk ?_))|((with_reducible apply z0b (c:= .region 11 _ _) (As:=[MapC Tryz.prog 9 b (m+1) M',RowC 149 2 (.slice a' (L.length+1) c') (L.length+1) (L.flatMap encPl++[.int .i64 k,.int .i64 i]),F]) (D:=GC b (m+1) (occs ds k++occD k x.data (i+1))));(with_reducible (exact atks));(intro h' e;exact hfin _ _ _ hM' h' e))|refine aw0 ?_|(refine ap2 ?_ ?_<;>try intro h)|refine aw1 ?_|(refine abx ?_;intro bb)|(refine abz ?_;intro bz)|(refine ahv ?_;intro v' hv')|(refine aac ?_;intro ac cc)|refine aw2 ?_|(refine ap4 ?_ ?_<;>try intro h)|apply True.intro)
       exact ⟨_,by omega,i+1,m+1,rfl,by omega,by omega,⟨_,atks⟩,asls⟩
     · rw [if_neg hg] at ha hO
       repeat' (first|refine aw0m ?_|(refine ap2 ?_ ?_<;>try intro h)|(refine acl Tryz.func89 ?_;refine acr (ha) ?_;rintro v' H' ⟨rfl,rfl⟩;refine apl ?_)|refine aw1m ?_|(refine abx ?_;intro bb)|(refine abz ?_;intro bz)|(refine ahv ?_;intro v' hv')|(refine aac ?_;intro ac cc)|refine aw2 ?_|(refine ap4 ?_ ?_<;>try intro h)|apply True.intro)
       exact ⟨_,by omega,i+1,m,rfl,by omega,by omega,⟨_,by rw [hO,List.append_nil];(exact atks)⟩,asls⟩
   · obtain rfl:i=x.data.length:=by omega
     repeat' (first|refine aw0m ?_|(refine ap2 ?_ ?_<;>try intro h)|refine aw1m ?_|(refine abx ?_;intro bb)|(refine abz ?_;intro bz)|(refine ahv ?_;intro v' hv')|(refine aac ?_;intro ac cc)|refine aw2 ?_|(refine ap4 ?_ ?_<;>try intro h)|apply True.intro)
     exact ⟨_,by omega,k+1,m,rfl,by omega,by rw [show tot ds (k+1)=tot ds k+(ds.getD k []).length from rfl,hdk];exact hm,⟨_,by rw [show occs ds (k+1)=occs ds k++occD k (ds.getD k []) (ds.getD k []).length from rfl,hdk];(exact atks)⟩,asls⟩
 · obtain rfl:k=bv.length:=by omega
   clear hat hve hv
   have hOl:=z7c ds bv.length
   obtain ⟨hkd,hkm⟩:=z2k (occs ds bv.length)
   refine z1x (A:=GC b m (occs ds bv.length)) (ι:=List PZ × (Lit->Option Value)) (B:=fun i=>[MapC Tryz.prog 9 b m i.2,all (rowsC 149 i.1)]) (φ:=fun i=>i.1.map (·.1)=grams (occs ds bv.length)/\(∀ g,i.2 (.string g)=valZ i.1 g) /\ ∀ z∈i.1,∃ a n c,z.2 = .slice a n c) atk (fun h ⟨Z,M,h1,h2,h3⟩=>⟨(Z,M),⟨h1,h2,zbj (h:=_) (Classical.choose_spec (Classical.choose_spec h3)).2.2.2⟩,(z1u (L1:=[MapC Tryz.prog 9 b m M])).2 h3⟩) ?_
   rintro ⟨Z,M⟩ ⟨hZ,hM,hsl⟩
   dsimp only [List.cons_append,List.nil_append] at hZ hM hsl ⊢
   have hmk:makeP ds=(((Z.map (·.1.1)).mergeSort leB).map (zOf Z)).map (·.1):=by
    unfold makeP
    rw [hdl,← hZ,List.map_map,List.map_map]
    rfl
   rw [← hZ,List.map_map] at hkd hkm
   have hk2 : ∀ g,g∈Z.map (·.1.1)↔(valZ Z g).isSome=true:=fun g=>zj1 g Z
   have hkl:(Z.map (·.1.1)).length<=10000000:=by
    have h1:=zfe (occs ds bv.length)
    rw [← hZ,List.length_map] at h1
    rw [List.length_map]
    omega
   have hperm:((Z.map (·.1.1)).mergeSort leB).Perm (Z.map (·.1.1)):=List.mergeSort_perm _ _
   have hzp:=zro hkd hperm
   have hfin : ∀ a2 c2 h',all [RowC 145 2 (.slice a2 ((Z.map (·.1.1)).mergeSort leB).length c2) ((Z.map (·.1.1)).mergeSort leB).length ((((Z.map (·.1.1)).mergeSort leB).map (zOf Z)).flatMap encZ),all (rowsC 149 Z)] h'->PostC 145 149 (.slice a2 ((Z.map (·.1.1)).mergeSort leB).length c2) (makeP ds) h':=fun a2 c2 h' e=>by
    have e2:=(z1u (L1:=[_]) (L2:=rowsC 149 Z)).1 e
    refine ⟨((Z.map (·.1.1)).mergeSort leB).map (zOf Z),hmk.symm,?_⟩
    rw [List.length_map]
    exact z0j (List.Perm.cons _ (List.Perm.map _ hzp.symm)) e2
   have hsn:((Z.map (·.1.1)).mergeSort leB).length=(Z.map (·.1.1)).length:=hperm.length_eq
   have hsort:=fun (r':Hp) (bm:Nat) (hbm:r' bm=some (.cells #[.map (some b)] 162 (0,0))) (g:Hp) (hm:MapC Tryz.prog 9 b m M g) (hs:sub g r')=>zgq r' bm b m M g hbm hm hs (Z.map (·.1.1)) hkd (fun x=>by rw [hM,hk2]) hkl
   have hlen : ∀ g∈(Z.map (·.1.1)).mergeSort leB,g.length<=maxLen:=fun g hg=>by
    have h1:=(hkm g).1 (hperm.mem_iff.1 hg)
    obtain ⟨o,ho,rfl⟩:=List.mem_map.1 h1
    rw [zff ho];decide
   generalize (Z.map (·.1.1)).mergeSort leB=ss at hsort hmk hperm hzp hsn hlen hfin
   rw [← hsn] at hsort
   repeat' (first|((with_reducible apply z12 (c:= .seq (.region 13 _ _) _) (A:=MapC Tryz.prog 9 b m M));(with_reducible (exact atk));intro r1 g1 hr1 hg1 hA1)|(refine acl Tryz.func91 ?_;refine acr (zod _ _) ?_;rintro v' H' ⟨bm,rfl,rfl⟩;refine apl ?_)|refine aw0 ?_|(refine ap2 ?_ ?_<;>try intro h)|refine aw1 ?_|(refine abx ?_;intro bb)|(refine abz ?_;intro bz)|(refine ahv ?_;intro v' hv')|(refine aac ?_;intro ac cc)|refine aw2 ?_|(refine ap4 ?_ ?_<;>try intro h)|apply True.intro)
   repeat' (first|((with_reducible apply z0k [(bm,.cells #[.map (some b)] 162 (0,0))]);(exact atks);intro r' hl';refine acl Tryz.func90 ?_;refine acr (hsort _ bm (Lent.h1 hl') g1 hA1 (hg1.trans hl'.1)) ?_;rintro v' H' ⟨a,c,rfl,rfl⟩;all_goals refine apm ?_)|((with_reducible apply z12 (c:= .block 4 _) (A:=RowC 9 1 (.slice a ss.length c) ss.length (ss.map Go.Proofs.encStr)));(with_reducible (exact atk));intro r2 g2 hr2 hg2 hA2)|refine aw0 ?_|(refine ap2 ?_ ?_<;>try intro h)|refine aw1 ?_|(refine abx ?_;intro bb)|(refine abz ?_;intro bz)|(refine ahv ?_;intro v' hv')|(refine aac ?_;intro ac cc)|refine aw2 ?_|(refine ap4 ?_ ?_<;>try intro h)|apply True.intro)
   have hS:Els r2 1 encSt (.slice a ss.length c) ss:=⟨fun _=>rfl,by rw [← zm7];exact hA2.sl hg2⟩
   have hg12:=hg1.trans hr2
   clear hA2 hsort
   refine z0f (A:=RowC 145 2 (.slice none 0 0) 0 []) (RowC.nil _ _) ?_
   refine z04 (fun gm t H' => ∃ (j:Nat) (a2:Option Addr) (c2:Nat),gm=ss.length+1 - j/\(j<=ss.length)/\(∃ G,Takes [RowC 145 2 (.slice a2 j c2) j (((ss.take j).map (zOf Z)).flatMap encZ),all (rowsC 149 Z)] H' G)/\Sls t 61 [(2,.slice a2 j c2),(3,.map (some b)),(45,.slice a ss.length c),(46,.int .i64 ss.length),(47,.int .i64 j)]) _ ⟨0,none,0,rfl,Nat.zero_le _,⟨_,by (exact atks)⟩,asls⟩ ?_
   rintro gm t H' ⟨j,a2,c2,rfl,hj,⟨G,hp⟩,hs'⟩
   revert t;refine z06 ?_;iterate 56 intro uu'
   refine z01 hp ?_;clear hp
   by_cases hlt2:j<ss.length
   · have hgl:=hlen _ (List.getElem_mem hlt2)
     have hse:ss[j]=ss.getD j default:=by rw [List.getD_eq_getElem?_getD,List.getElem?_eq_getElem hlt2];rfl
     have htk:(ss.take (j+1)).map (zOf Z)=(ss.take j).map (zOf Z)++[zOf Z (ss.getD j default)]:=by
      rw [List.take_succ_eq_append_getElem hlt2,List.map_append,hse];rfl
     rw [hse] at hgl
     have hss:ss.length<=10000000:=by omega
     repeat' (first|refine aw0m ?_|(refine ap2 ?_ ?_<;>try intro h)|refine aw1m ?_|(refine abx ?_;intro bb)|(refine abz ?_;intro bz)|(refine ahv ?_;intro v' hv')|(refine aac ?_;intro ac cc)|refine aw2 ?_|(refine ap4 ?_ ?_<;>try intro h)|apply True.intro)
     generalize ss.getD j default=g at hgl htk ⊢
     obtain ⟨ua,un,uc,hu⟩:=zkg hsl g
     rw [← hM] at hu
     have hzo:encZ (zOf Z g)=[.string (bs g),.slice ua un uc]:=by rw [← hu,hM];rfl
     repeat' (first|refine aw0m ?_|(refine ap2 ?_ ?_<;>try intro h)|((with_reducible apply zp0 (kt:=9) (et:=62));kernel_rfl;exact Tryz.underlying9;exact z0l;rfl;rfl;exact hgl;exact hA1;exact hg12;exact hu;(refine apk ?_))|(first|((with_reducible apply z0d);exact ty_el;exact z03;rfl;rfl;rfl;(exact atk);(exact atk);rfl;omega;intro a' c';(refine apk ?_))|((with_reducible apply z0m);exact ty_el;exact z03;rfl;rfl;rfl;rfl;(exact atk);(exact atk);rfl;rfl;omega;intro a' c';(refine apk ?_)))|refine aw1m ?_|(refine abx ?_;intro bb)|(refine abz ?_;intro bz)|(refine ahv ?_;intro v' hv')|(refine aac ?_;intro ac cc)|refine aw2 ?_|(refine ap4 ?_ ?_<;>try intro h)|apply True.intro)
     exact ⟨_,by omega,j+1,a',c',rfl,by omega,⟨_,by rw [htk,List.flatMap_append,List.flatMap_cons,hzo];(exact atks)⟩,asls⟩
   · obtain rfl:j=ss.length:=by omega
     rw [List.take_length]
     repeat' (first|((with_reducible apply z0b (c:= .region 18 _ _) (As:=[RowC 145 2 (.slice a2 ss.length c2) ss.length ((ss.map (zOf Z)).flatMap encZ),all (rowsC 149 Z)]) (D:=PostC 145 149 (.slice a2 ss.length c2) (makeP ds)));(with_reducible (exact atks));(intro h' e;exact hfin a2 c2 h' e))|refine aw0 ?_|(refine ap2 ?_ ?_<;>try intro h)|refine aw1 ?_|(refine abx ?_;intro bb)|(refine abz ?_;intro bz)|(refine ahv ?_;intro v' hv')|(refine aac ?_;intro ac cc)|refine aw2 ?_|(refine ap4 ?_ ?_<;>try intro h)|apply True.intro)
     ((with_reducible apply z00);exact res_1 rfl rfl)
     exact HR.out _ _ _ [_] atks ⟨_,_,by rw [hmk,List.length_map,List.length_map],rfl⟩
end Go.Proofs.YtohpeoakdgckfaaGreat
namespace Go.Proofs.YtohpeoakdgckfaaGreat
open Go.RowKit Sx
def behP (a b:PlaceV):Bool:=decide (b.doc<a.doc) || decide (a.doc=b.doc) && decide (b.pos<a.pos)
theorem zkd (r:Hp) (a b:PlaceV):Tri Tryz.prog r 158 [.agg (encPl a).toArray,.agg (encPl b).toArray] [] fun w H=>w = .bool (behP a b)/\H=[]:=by
 obtain ⟨ad,ap⟩:=a
 obtain ⟨bd,bp⟩:=b
 show Tri Tryz.prog r 158 [.agg [.int .i64 ad,.int .i64 ap].toArray,.agg [.int .i64 bd,.int .i64 bp].toArray] [] _
 refine Tri.free2 fun R HR=>?_
 refine ae Tryz.func158 Tryz.ntmps158 ?_
 by_cases h1:bd<ad
 · repeat' (first|exact xf|refine aw0 ?_|(refine ap2 ?_ ?_<;>try intro h)|refine aw1 ?_|(refine abx ?_;intro bb)|(refine abz ?_;intro bz)|(refine ahv ?_;intro v' hv')|(refine aac ?_;intro ac cc)|refine aw2 ?_|(refine ap4 ?_ ?_<;>try intro h)|apply True.intro)
   all_goals (((with_reducible apply z00);exact res_1 rfl rfl);exact HR.out _ _ _ [] Takes.all ⟨by congr 1;simp [behP,h1],rfl⟩)
 · by_cases h2:ad=bd
   · repeat' (first|exact xf|refine aw0 ?_|(refine ap2 ?_ ?_<;>try intro h)|refine aw1 ?_|(refine abx ?_;intro bb)|(refine abz ?_;intro bz)|(refine ahv ?_;intro v' hv')|(refine aac ?_;intro ac cc)|refine aw2 ?_|(refine ap4 ?_ ?_<;>try intro h)|apply True.intro)
     all_goals (((with_reducible apply z00);exact res_1 rfl rfl);exact HR.out _ _ _ [] Takes.all ⟨by congr 1;simp [behP,h2],rfl⟩)
   · repeat' (first|exact xf|refine aw0 ?_|(refine ap2 ?_ ?_<;>try intro h)|refine aw1 ?_|(refine abx ?_;intro bb)|(refine abz ?_;intro bz)|(refine ahv ?_;intro v' hv')|(refine aac ?_;intro ac cc)|refine aw2 ?_|(refine ap4 ?_ ?_<;>try intro h)|apply True.intro)
     all_goals (((with_reducible apply z00);exact res_1 rfl rfl);exact HR.out _ _ _ [] Takes.all ⟨by congr 1;simp [behP,h1,h2],rfl⟩)
def placeOk (o:Option PlaceV) (p:PlaceV):Bool:=decide (0<=p.doc) && decide (p.doc<4000) && decide (0<=p.pos) && decide (p.pos<=1048576) && (match o with|none=>true|some a=>behP p a)
theorem zf8 (a p:PlaceV):fitsP a p=placeOk (some a) p:=by
 unfold fitsP placeOk behP
 simp only [eq_comm]
theorem zke (p:PlaceV):fitsP ⟨-1,0⟩ p=placeOk none p:=by
 unfold fitsP placeOk
 by_cases h:0<=p.doc
 · have h1:(decide ((-1:Int)<p.doc))=true:=decide_eq_true (by omega)
   simp [h1]
 · simp [h]
def befP (a p:PlaceV):Prop:=a.doc<p.doc\/(a.doc=p.doc/\a.pos<p.pos)
theorem ziv : ∀ {l:List PlaceV} {a:PlaceV},l.Pairwise befP->(∀ p∈l,befP a p/\0<=p.doc/\p.doc<4000/\0<=p.pos/\p.pos<=1048576)->chainP a l=true
 | [],_,_,_=>rfl
 | p::l,a,hp,h=>by
  rw [List.pairwise_cons] at hp
  have h0:=h p List.mem_cons_self
  rw [chainP,Bool.and_eq_true]
  refine ⟨?_,ziv hp.2 fun q hq=>⟨hp.1 q hq,(h q (List.mem_cons_of_mem _ hq)).2⟩⟩
  unfold fitsP
  unfold befP at h0
  simp only [Bool.and_eq_true,Bool.or_eq_true,decide_eq_true_eq]
  omega
theorem zm8 (d:Nat) (b:List UInt8) : ∀ n,(occD d b n).Pairwise (fun x y=>befP x.2 y.2)
 | 0=>List.Pairwise.nil
 | n+1=>by
  unfold occD
  rw [List.pairwise_append]
  refine ⟨zm8 d b n,by split<;>simp,fun x hx y hy=>?_⟩
  obtain ⟨k,h1,_,rfl⟩:=z92.1 hx
  split at hy
  · rw [List.mem_singleton] at hy
    subst hy
    exact .inr ⟨rfl,by dsimp only;omega⟩
  · cases hy
theorem zm9 (ds:List (List UInt8)) : ∀ n,(occs ds n).Pairwise (fun x y=>befP x.2 y.2)
 | 0=>List.Pairwise.nil
 | n+1=>by
  unfold occs
  rw [List.pairwise_append]
  refine ⟨zm9 ds n,zm8 n _ _,fun x hx y hy=>?_⟩
  obtain ⟨d,k,h1,_,_,rfl⟩:=z93.1 hx
  obtain ⟨k2,_,_,rfl⟩:=z92.1 hy
  exact .inl (by dsimp only;omega)
theorem zma (ds:List (List UInt8)) : ∀ k,k<=ds.length->tot ds k=((ds.take k).map List.length).sum
 | 0,_=>by simp [tot]
 | k+1,h=>by
  have hk:k<ds.length:=by omega
  rw [tot,zma ds k (by omega),List.take_succ_eq_append_getElem hk,List.map_append,List.sum_append,List.getD_eq_getElem?_getD,List.getElem?_eq_getElem hk]
  simp
theorem z7a {ds:List (List UInt8)} {x:PostP} (h:x∈makeP ds):(x.1∈(grams (occs ds ds.length)).map (·.1))/\x.2=((occs ds ds.length).filter fun o=>decide (o.1=x.1)).map (·.2):=by
 unfold makeP at h
 obtain ⟨g,hg,rfl⟩:=List.mem_map.1 h
 exact ⟨(List.mergeSort_perm _ _).mem_iff.1 hg,z7d _ _⟩
theorem zh5 {ds:List (List UInt8)} {x:PostP} {p:PlaceV} (h:x∈makeP ds) (hp:p∈x.2) : ∃ d k:Nat,d<ds.length/\k<(ds.getD d []).length/\gramAt (ds.getD d []) k=true/\x.1=((ds.getD d []).drop k).take 3/\p=⟨d,k⟩:=by
 rw [(z7a h).2] at hp
 obtain ⟨o,ho,rfl⟩:=List.mem_map.1 hp
 obtain ⟨ho1,ho2⟩:=List.mem_filter.1 ho
 have ho2':=of_decide_eq_true ho2
 obtain ⟨d,k,h1,h2,h3,rfl⟩:=z93.1 ho1
 exact ⟨d,k,h1,h2,h3,ho2'.symm,rfl⟩
theorem zsz {g:List UInt8} (h:g≠[]):([]:List UInt8)<g:=by
 cases g with
 | nil=>exact absurd rfl h
 | cons a l=>exact List.nil_lt_cons a l
theorem zkf (ds:List (List UInt8)):(makeP ds).map (·.1)=((grams (occs ds ds.length)).map (·.1)).mergeSort leB:=by
 unfold makeP
 rw [List.map_map]
 exact (List.map_congr_left fun x _=>rfl).trans (List.map_id _)
theorem zmb (ds:List (List UInt8)):((makeP ds).map (·.1)).Pairwise (· < ·):=by
 rw [zkf]
 obtain ⟨hn,_⟩:=z2k (occs ds ds.length)
 have h1:(((grams (occs ds ds.length)).map (·.1)).mergeSort leB).Nodup:=(List.mergeSort_perm _ _).nodup_iff.2 hn
 have h2:(((grams (occs ds ds.length)).map (·.1)).mergeSort leB).Pairwise (fun a b=>leB a b=true):=List.pairwise_mergeSort (fun a b c h k=>by
  unfold leB at *
  rw [decide_eq_true_eq] at *
  exact List.le_trans h k) (fun a b=>by
  unfold leB
  rw [Bool.or_eq_true,decide_eq_true_eq,decide_eq_true_eq]
  exact List.le_total a b) _
 refine (h1.and h2).imp fun {a b} ⟨hne,hle⟩=>?_
 unfold leB at hle
 rcases List.le_iff_lt_or_eq.1 (of_decide_eq_true hle) with h|h
 · exact h
 · exact absurd h hne
theorem zox {ds:List (List UInt8)} (hn:ds.length<=4000) (ht:tot ds ds.length<=1048576):postsOk [] (makeP ds)=true:=by
 have hgl : ∀ x∈makeP ds,x.1.length=3:=by
  intro x hx
  have h1:=((z2k (occs ds ds.length)).2 x.1).1 (z7a hx).1
  obtain ⟨o,ho,e⟩:=List.mem_map.1 h1
  rw [← e];exact zff ho
 refine zbh (fun x hx=>?_) (zmb ds) (fun x hx=>zsz fun e=>by have:=hgl x hx;rw [e] at this;cases this)
 have h1:=((z2k (occs ds ds.length)).2 x.1).1 (z7a hx).1
 obtain ⟨o,ho,e⟩:=List.mem_map.1 h1
 have h2:=(z7a hx).2
 have hne:x.2≠[]:=by
  intro e2
  rw [h2] at e2
  have h3:=List.map_eq_nil_iff.1 e2
  rw [List.filter_eq_nil_iff] at h3
  exact h3 o ho (decide_eq_true e)
 have hc:chainP ⟨-1,0⟩ x.2=true:=by
  refine ziv ?_ ?_
  · rw [h2,List.pairwise_map]
    exact List.Pairwise.filter _ (zm9 ds ds.length)
  · intro p hp
    obtain ⟨d,k,h3,h4,h5,_,rfl⟩:=zh5 hx hp
    have h6:(ds.getD d []).length<=tot ds ds.length:=by
     have:=z91 ds (n:=ds.length) (k:=d+1) (by omega)
     rw [tot] at this
     omega
    refine ⟨.inl (by dsimp only;omega),by dsimp only;omega,by dsimp only;omega,by dsimp only;omega,by dsimp only;omega⟩
 unfold postOk
 rw [hc,decide_eq_true (hgl x hx)]
 cases h:x.2 with
 | nil=>exact absurd h hne
 | cons=>rfl
theorem ziw (ks:List (List UInt8)) (hn:ks.Nodup) : ∀ O:List (List UInt8 × PlaceV),(∀ o∈O,o.1∈ks)->(ks.map fun g=>(O.filter fun o=>decide (o.1=g)).length).sum=O.length
 | [],_=>by
  clear hn
  induction ks with
  | nil=>rfl
  | cons k ks ih=>rw [List.map_cons,List.sum_cons,ih fun o h=>by cases h];rfl
 | o::O,h=>by
  have ih:=ziw ks hn O fun x hx=>h x (List.mem_cons_of_mem _ hx)
  have ho:=h o List.mem_cons_self
  have e : ∀ L:List (List UInt8),(L.map fun g=>((o::O).filter fun o=>decide (o.1=g)).length).sum=(L.map fun g=>(O.filter fun o=>decide (o.1=g)).length).sum+L.count o.1:=by
   intro L
   induction L with
   | nil=>rfl
   | cons g L ih2 =>
    rw [List.map_cons,List.sum_cons,ih2,List.map_cons,List.sum_cons,List.count_cons,List.filter_cons]
    by_cases c:o.1=g
    · subst c;simp;omega
    · have c2:¬ g=o.1:=fun e=>c e.symm
      simp [c,c2];omega
  rw [e,ih,List.Nodup.count hn,if_pos ho,List.length_cons]
def allP (ps:List PostP):Nat:=(ps.map fun x=>x.2.length).sum
def manyD (ds:List (List UInt8)):Nat:=(ds.map fun b=>b.length - 2).sum
theorem zf9 (d:Nat) (b:List UInt8) : ∀ n,n<=b.length->(occD d b n).length=min n (b.length - 2)
 | 0,_=>by simp [occD]
 | n+1,h=>by
  unfold occD
  rw [List.length_append,zf9 d b n (by omega)]
  by_cases c:gramAt b n=true
  · rw [if_pos c]
    simp only [gramAt,Bool.and_eq_true,decide_eq_true_eq] at c
    simp only [List.length_cons,List.length_nil]
    omega
  · rw [if_neg c]
    simp only [gramAt,Bool.and_eq_true,decide_eq_true_eq] at c
    simp only [List.length_nil]
    omega
theorem zfa (ds:List (List UInt8)) : ∀ k,k<=ds.length->(occs ds k).length=manyD (ds.take k)
 | 0,_=>by simp [occs,manyD]
 | k+1,h=>by
  have hk:k<ds.length:=by omega
  have h1:=zf9 k (ds.getD k []) (ds.getD k []).length (Nat.le_refl _)
  unfold occs
  rw [List.length_append,zfa ds k (by omega),h1]
  unfold manyD
  rw [List.take_succ_eq_append_getElem hk,List.map_append,List.sum_append,List.getD_eq_getElem?_getD,List.getElem?_eq_getElem hk]
  simp
theorem zix (ds:List (List UInt8)):allP (makeP ds)=manyD ds:=by
 have h1:=zfa ds ds.length (Nat.le_refl _)
 rw [List.take_length] at h1
 rw [← h1]
 obtain ⟨hn,hm⟩:=z2k (occs ds ds.length)
 have h2:(((grams (occs ds ds.length)).map (·.1)).mergeSort leB).Nodup:=(List.mergeSort_perm _ _).nodup_iff.2 hn
 have h3:=ziw _ h2 (occs ds ds.length) fun o ho=>(List.mergeSort_perm _ _).mem_iff.2 ((hm o.1).2 (List.mem_map_of_mem ho))
 rw [← h3]
 unfold allP makeP
 rw [List.map_map]
 congr 1
 refine List.map_congr_left fun g _=>?_
 show (getG (grams (occs ds ds.length)) g).length=_
 rw [z7d,List.length_map]
theorem Sx.sw_midM {P:Program} {l:Option Nat} {r:Hp} {Q:Exit->St} {t:List Value} {H:List Ch} {c1 c2:Code} (I:St) (h1:SW P l r c1 (Then I Q) t H) (h2 : ∀ t' H',I t' H'->SW P l r c2 Q t' H'):SW P l r (.seq c1 c2) Q t H :=
 z5f (zn4 h1 fun e t' H' h=>by cases e<;>first|exact h|exact h2 _ _ h)
theorem Sx.sw_joinC {P:Program} {l:Option Nat} {r:Hp} {Q:Exit->St} {t:List Value} {H H1:List Ch} {c:Code} {As Ds:List Ch} (ht:Takes As H H1) (hj : ∀ h,all As h->all Ds h) (h:SW P l r c Q t (Ds++H1)):SW P l r c Q t H:=fun w g ds ok a=>by
 obtain ⟨x,y,dd,e,hx,hy⟩:=z17.1 (z0j ht a)
 exact h w g ds ok (z17.2 ⟨x,y,dd,e,hj x hx,hy⟩)
def sortP (O:List (List UInt8 × PlaceV)):List PostP:=(((grams O).map (·.1)).mergeSort leB).map fun g=>(g,getG (grams O) g)
theorem zbi (ds:List (List UInt8)):makeP ds=sortP (occs ds ds.length):=rfl
theorem z83 (O:List (List UInt8 × PlaceV)):(sortP O).map (·.1)=((grams O).map (·.1)).mergeSort leB:=by
 unfold sortP
 rw [List.map_map]
 exact (List.map_congr_left fun x _=>rfl).trans (List.map_id _)
theorem z5u (O:List (List UInt8 × PlaceV)):((sortP O).map (·.1)).Pairwise (· < ·):=by
 rw [z83]
 obtain ⟨hn,_⟩:=z2k O
 have h1:(((grams O).map (·.1)).mergeSort leB).Nodup:=(List.mergeSort_perm _ _).nodup_iff.2 hn
 have h2:(((grams O).map (·.1)).mergeSort leB).Pairwise (fun a b=>leB a b=true):=List.pairwise_mergeSort (fun a b c h k=>by
  unfold leB at *
  rw [decide_eq_true_eq] at *
  exact List.le_trans h k) (fun a b=>by
  unfold leB
  rw [Bool.or_eq_true,decide_eq_true_eq,decide_eq_true_eq]
  exact List.le_total a b) _
 refine (h1.and h2).imp fun {a b} ⟨hne,hle⟩=>?_
 unfold leB at hle
 rcases List.le_iff_lt_or_eq.1 (of_decide_eq_true hle) with h|h
 · exact h
 · exact absurd h hne
theorem za6 (O:List (List UInt8 × PlaceV)) (g:List UInt8):g∈(sortP O).map (·.1)↔g∈O.map (·.1):=by
 rw [z83,(List.mergeSort_perm _ _).mem_iff]
 exact (z2k O).2 g
theorem z5a {O:List (List UInt8 × PlaceV)} {x:PostP} (h:x∈sortP O):x.2=getG (grams O) x.1:=by
 unfold sortP at h
 obtain ⟨g,_,rfl⟩:=List.mem_map.1 h
 rfl
theorem z3a (a:List UInt8):¬ a<a:=List.lt_irrefl a
theorem zmc : ∀ {l m:List (List UInt8)},l.Pairwise (· < ·)->m.Pairwise (· < ·)->(∀ g,g∈l↔g∈m)->l=m
 | [],[],_,_,_=>rfl
 | [],b::m,_,_,h=>absurd ((h b).2 List.mem_cons_self) (by simp)
 | a::l,[],_,_,h=>absurd ((h a).1 List.mem_cons_self) (by simp)
 | a::l,b::m,h1,h2,h=>by
  obtain ⟨ha,hl⟩:=List.pairwise_cons.1 h1
  obtain ⟨hb,hm⟩:=List.pairwise_cons.1 h2
  have e:a=b:=by
   rcases List.mem_cons.1 ((h a).1 List.mem_cons_self) with e|e
   · exact e
   · rcases List.mem_cons.1 ((h b).2 List.mem_cons_self) with e2|e2
     · exact e2.symm
     · exact absurd (List.lt_trans (ha _ e2) (hb _ e)) (z3a a)
  subst e
  congr 1
  refine zmc hl hm fun g=>⟨fun hg=>?_,fun hg=>?_⟩
  · rcases List.mem_cons.1 ((h g).1 (List.mem_cons_of_mem _ hg)) with e|e
    · subst e;exact absurd (ha _ hg) (z3a _)
    · exact e
  · rcases List.mem_cons.1 ((h g).2 (List.mem_cons_of_mem _ hg)) with e|e
    · subst e;exact absurd (hb _ hg) (z3a _)
    · exact e
theorem ziy {O:List (List UInt8 × PlaceV)} {L:List PostP} (h1:(L.map (·.1)).Pairwise (· < ·)) (h2 : ∀ g,g∈L.map (·.1)↔g∈O.map (·.1)) (h3 : ∀ x∈L,x.2=getG (grams O) x.1):L=sortP O:=by
 have e:L.map (·.1)=(sortP O).map (·.1):=zmc h1 (z5u O) fun g=>by rw [h2,za6]
 have e2 : ∀ M:List PostP,(∀ x∈M,x.2=getG (grams O) x.1)->M=(M.map (·.1)).map fun g=>(g,getG (grams O) g):=fun M hM=>by
  rw [List.map_map]
  refine ((List.map_congr_left fun x hx=>?_).trans (List.map_id M)).symm
  rw [Function.comp_apply,← hM x hx];rfl
 rw [e2 L h3,e2 (sortP O) fun x hx=>z5a hx,e]
theorem z61 (O:List (List UInt8 × PlaceV)) (g:List UInt8) (p:PlaceV) (x:List UInt8):getG (grams (O++[(g,p)])) x=if g=x then getG (grams O) g++[p] else getG (grams O) x:=by
 rw [zbk,ziz]
theorem zmd {O:List (List UInt8 × PlaceV)} {g:List UInt8} {p:PlaceV} {l:List PlaceV} {S1 S2:List PostP} (h:sortP O=S1++(g,l)::S2):S1++(g,l++[p])::S2=sortP (O++[(g,p)]):=by
 have hr:=z5u O
 have hm:=za6 O
 have hv : ∀ x∈sortP O,x.2=getG (grams O) x.1:=fun x hx=>z5a hx
 rw [h] at hr hm hv
 have hk:(S1++(g,l++[p])::S2).map (·.1)=(S1++(g,l)::S2).map (·.1):=by simp
 have hl:l=getG (grams O) g:=hv (g,l) (by simp)
 rw [List.map_append,List.map_cons] at hr
 obtain ⟨_,hr2,hr3⟩:=List.pairwise_append.1 hr
 obtain ⟨hr4,_⟩:=List.pairwise_cons.1 hr2
 refine ziy (by rw [hk,List.map_append,List.map_cons];exact hr) (fun x=>?_) fun x hx=>?_
 · rw [hk,hm,List.map_append,List.mem_append]
   refine ⟨.inl,fun e=>e.elim id fun e=>?_⟩
   rw [List.map_cons,List.map_nil,List.mem_singleton] at e
   subst e
   exact (hm _).1 (by simp)
 · rw [z61]
   rcases List.mem_append.1 hx with hx|hx
   · have hne:¬ g=x.1:=fun e=>z3a g (by have:=hr3 _ (List.mem_map_of_mem hx) g (by simp);rwa [← e] at this)
     rw [if_neg hne];exact hv x (by simp [hx])
   · rcases List.mem_cons.1 hx with rfl|hx
     · rw [if_pos rfl,hl]
     · have hne:¬ g=x.1:=fun e=>z3a g (by have:=hr4 _ (List.mem_map_of_mem hx);rwa [← e] at this)
       rw [if_neg hne];exact hv x (by simp [hx])
theorem zme {O:List (List UInt8 × PlaceV)} {g:List UInt8} {p:PlaceV} {S1 S2:List PostP} (h:sortP O=S1++S2) (h1 : ∀ x∈S1,x.1<g) (h2 : ∀ x∈S2,g<x.1):S1++(g,[p])::S2=sortP (O++[(g,p)]):=by
 have hr:=z5u O
 have hm:=za6 O
 have hv : ∀ x∈sortP O,x.2=getG (grams O) x.1:=fun x hx=>z5a hx
 rw [h] at hr hm hv
 rw [List.map_append] at hr
 obtain ⟨hr1,hr2,hr3⟩:=List.pairwise_append.1 hr
 have hno:g ∉ O.map (·.1):=fun e=>by
  obtain ⟨x,hx,e2⟩:=List.mem_map.1 ((hm g).2 e)
  rcases List.mem_append.1 hx with hx|hx
  · have:=h1 x hx;rw [e2] at this;exact z3a _ this
  · have:=h2 x hx;rw [e2] at this;exact z3a _ this
 have hg0:getG (grams O) g=[]:=by
  rw [z7d,List.filter_eq_nil_iff.2 fun o ho=>?_]
  · rfl
  · rw [decide_eq_true_eq];exact fun e=>hno (e ▸ List.mem_map_of_mem ho)
 refine ziy ?_ (fun x=>?_) fun x hx=>?_
 · rw [List.map_append,List.map_cons]
   refine List.pairwise_append.2 ⟨hr1,List.pairwise_cons.2 ⟨fun x hx=>?_,hr2⟩,fun x hx y hy=>?_⟩
   · obtain ⟨z,hz,rfl⟩:=List.mem_map.1 hx;exact h2 z hz
   · obtain ⟨z,hz,rfl⟩:=List.mem_map.1 hx
     rcases List.mem_cons.1 hy with rfl|hy
     · exact h1 z hz
     · exact hr3 _ (List.mem_map_of_mem hz) _ hy
 · have e:=hm x
   simp only [List.map_append,List.map_cons,List.map_nil,List.mem_append,List.mem_cons,List.not_mem_nil,or_false] at e ⊢
   rw [← e]
   constructor
   · rintro (h|h|h)
     · exact .inl (.inl h)
     · exact .inr h
     · exact .inl (.inr h)
   · rintro ((h|h)|h)
     · exact .inl h
     · exact .inr (.inr h)
     · exact .inr (.inl h)
 · rw [z61]
   rcases List.mem_append.1 hx with hx|hx
   · have hne:¬ g=x.1:=fun e=>z3a g (by have:=h1 x hx;rwa [← e] at this)
     rw [if_neg hne];exact hv x (by simp [hx])
   · rcases List.mem_cons.1 hx with rfl|hx
     · rw [if_pos rfl,hg0];rfl
     · have hne:¬ g=x.1:=fun e=>z3a g (by have:=h2 x hx;rwa [← e] at this)
       rw [if_neg hne];exact hv x (by simp [hx])
theorem zfb (O:List (List UInt8 × PlaceV)):(sortP O).length<=O.length:=by
 have h:=congrArg List.length (z83 O)
 rw [List.length_map,List.length_mergeSort,List.length_map] at h
 rw [h]
 exact zfe O
theorem zmf {ds:List (List UInt8)} {n:Nat} (h:tot ds ds.length<=n):(makeP ds).length<=n /\ ∀ x∈makeP ds,x.2.length<=n:=by
 have h1:=z7c ds ds.length
 rw [zbi]
 refine ⟨Nat.le_trans (zfb _) (by omega),fun x hx=>?_⟩
 rw [z5a hx]
 exact Nat.le_trans (z5b _ _) (by omega)
end Go.Proofs.YtohpeoakdgckfaaGreat
