/- mudlarkref19.behind, Right: their contracts. -/
import Derived.Test.YtohpeoakdgckfaaGreatGr
import Derived.Test.YtohpeoakdgckfaaGreatEm
import Derived.Test.YtohpeoakdgckfaaGreatMs
import Derived.Test.YtohpeoakdgckfaaGreatPf
set_option maxHeartbeats 2000000
set_option maxRecDepth 10000
namespace Go.Proofs.YtohpeoakdgckfaaGreat
open Go.RowKit Go.Maps Go.Sort Sx
theorem less_iff (a b:List UInt8):Op.bytesLess a b=true↔a<b:=by rw [bytesLess_eq,decide_eq_true_eq]
theorem less_tri {a b:List UInt8} (h:¬ a<b) (k:¬ a=b):b<a:=by
 rcases List.le_iff_lt_or_eq.1 (List.not_lt.1 h) with h|h
 · exact h
 · exact absurd h.symm k
theorem notless {a b:List UInt8}:(!(Op.bytesLess a b || decide (a=b)))=true↔b<a:=by
 rw [Bool.not_eq_true',Bool.or_eq_false_iff,decide_eq_false_iff_not,← Bool.not_eq_true,less_iff]
 constructor
 · rintro ⟨h1,h2⟩;exact less_tri h1 h2
 · intro h
   exact ⟨fun h2=>List.lt_asymm h h2,fun e=>by subst e;exact List.lt_irrefl _ h⟩
theorem postsOk_of : ∀ {ps:List PostP} {last:List UInt8},(∀ x∈ps,postOk x=true)->(ps.map (·.1)).Pairwise (· < ·)->(∀ x∈ps,last<x.1)->postsOk last ps=true
 | [],_,_,_,_=>rfl
 | x::ps,last,h,hp,hl=>by
  rw [postsOk,Bool.and_eq_true,Bool.and_eq_true,notless]
  rw [List.map_cons,List.pairwise_cons] at hp
  exact ⟨⟨h x List.mem_cons_self,hl x List.mem_cons_self⟩,postsOk_of (fun y hy=>h y (List.mem_cons_of_mem _ hy)) hp.2 (fun y hy=>hp.1 _ (List.mem_map_of_mem hy))⟩
def encSt (s:List UInt8):List Value:=[.string (bs s)]
theorem encSt_map (l:List (List UInt8)):l.map Go.Proofs.encStr=l.flatMap encSt:=by
 induction l with
 | nil=>rfl
 | cons x l ih=>rw [List.map_cons,ih];rfl
abbrev GC (b m:Nat) (O:List (List UInt8 × PlaceV)):Ch:=PlC Tryz.prog 9 149 b m (grams O)
theorem make_any (r:Hp) (v:Value) (bv:List BytV) (hv:Rowz r v bv) (hn:bv.length<=10000000) (hl:tot (bv.map (·.data)) bv.length<=10000000):Tri Tryz.prog r 36 [v] [] fun w H =>
 ∃ a c,w = .slice a (makeP (bv.map (·.data))).length c/\H=[PostC 145 149 w (makeP (bv.map (·.data)))]:=by
 refine Tri.free2 fun R HR=>?_
 obtain ⟨ds,hds⟩ : ∃ ds,bv.map (·.data)=ds:=⟨_,rfl⟩
 have hdl:ds.length=bv.length:=by rw [← hds,List.length_map]
 have hat : ∀ k,k<bv.length->ds.getD k []=(bv.getD k default).data:=fun k hk=>by
  rw [← hds,List.getD_eq_getElem?_getD,List.getD_eq_getElem?_getD,List.getElem?_map,List.getElem?_eq_getElem hk];rfl
 rw [hds] at HR hl
 have hve:=hv.1
 refine ae Tryz.func36 Tryz.ntmps36 ?_
 repeat' (first|refine aw0m ?_|(refine ap2 ?_ ?_<;>try intro h)|((with_reducible apply kx_mmake 9);intro b;(refine apk ?_))|refine aw1m ?_|(refine abx ?_;intro bb)|(refine abz ?_;intro bz)|(refine ahv ?_;intro v' hv')|(refine aac ?_;intro ac cc)|refine aw2 ?_|(refine ap4 ?_ ?_<;>try intro h)|apply True.intro)
 refine sw_imp (A:=MapC Tryz.prog 9 b 0 (fun _=>none)) (B:=GC b 0 []) atk (fun h e=>PlC.nil h e) ?_
 refine sw_loop (fun gm t H' => ∃ (k m:Nat),gm=bv.length+1 - k/\(k<=bv.length)/\(m<=tot ds k)/\(∃ G,Takes [GC b m (occs ds k)] H' G)/\Sls t 61 [(2,.slice none 0 0),(3,.map (some b)),(12,v),(13,.int .i64 bv.length),(14,.int .i64 k)]) _ ⟨0,0,rfl,Nat.zero_le _,Nat.zero_le _,⟨[],atks⟩,asls⟩ ?_
 rintro gm t H' ⟨k,m,rfl,hk,hm,⟨G,hp⟩,hs'⟩
 revert t;refine sls_all ?_;iterate 56 intro uu'
 refine sw_takeG hp ?_;clear hp
 by_cases hlt:k<bv.length
 · have hb:=hv.2 _ (List.getElem_mem hlt)
   have hbe:bv[k]=bv.getD k default:=by rw [List.getD_eq_getElem?_getD,List.getElem?_eq_getElem hlt];rfl
   rw [hbe] at hb
   have hdk:=hat k hlt
   have htk:tot ds k+(bv.getD k default).data.length<=10000000:=by
    have:=tot_mono ds (show k+1<=bv.length from hlt)
    rw [show tot ds (k+1)=tot ds k+(ds.getD k []).length from rfl,hdk] at this
    omega
   have hxl:(bv.getD k default).data.length<=10000000:=by omega
   repeat' (first|refine aw0m ?_|(refine ap2 ?_ ?_<;>try intro h)|refine aw1m ?_|(refine abx ?_;intro bb)|(refine abz ?_;intro bz)|(refine ahv ?_;intro v' hv')|(refine aac ?_;intro ac cc)|refine aw2 ?_|(refine ap4 ?_ ?_<;>try intro h)|apply True.intro)
   generalize bv.getD k default=x at hb hdk htk hxl ⊢
   refine sw_loop (fun gm t H' => ∃ (i m:Nat),gm=x.data.length+1 - i/\(i<=x.data.length)/\(m<=tot ds k+i)/\(∃ G,Takes [GC b m (occs ds k++occD k x.data i)] H' G)/\Sls t 61 [(2,.slice none 0 0),(3,.map (some b)),(4,.int .i64 k),(5,x.val),(12,v),(13,.int .i64 bv.length),(14,.int .i64 k),(20,.int .i64 x.data.length),(21,.int .i64 i)]) _ ⟨0,m,rfl,Nat.zero_le _,by omega,⟨_,by rw [show occD k x.data 0=[] from rfl,List.append_nil];(exact atks)⟩,asls⟩ ?_
   rintro gm t H' ⟨i,m,rfl,hi,hm,⟨G,hp⟩,hs'⟩
   revert t;refine sls_all ?_;iterate 52 intro uu'
   refine sw_takeG hp ?_;clear hp
   by_cases hlt1:i<x.data.length
   · have ha:=at_any r x.val x.data i hb (by omega)
     have hO:occD k x.data (i+1)=occD k x.data i++(if gramAt x.data i then [((x.data.drop i).take 3,⟨k,i⟩)] else []):=rfl
     by_cases hg:gramAt x.data i=true
     · rw [if_pos hg] at ha hO
       repeat' (first|refine aw0m ?_|(refine ap2 ?_ ?_<;>try intro h)|(refine acl Tryz.func89 ?_;refine acr (ha) ?_;rintro v' H' ⟨rfl,rfl⟩;refine apl ?_)|refine aw1m ?_|(refine abx ?_;intro bb)|(refine abz ?_;intro bz)|(refine ahv ?_;intro v' hv')|(refine aac ?_;intro ac cc)|refine aw2 ?_|(refine ap4 ?_ ?_<;>try intro h)|apply True.intro)
       rw [show ((i:Int).toNat)=i from rfl]
       have hgl:((x.data.drop i).take 3).length<=maxLen:=by rw [List.length_take];unfold maxLen;omega
       have hnl:(getG (grams (occs ds k++occD k x.data i)) ((x.data.drop i).take 3)).length<=20000000:=by
        have h1:=grams_getlen (occs ds k++occD k x.data i) ((x.data.drop i).take 3)
        have h2:=occs_len ds k
        have h3:=occD_len k x.data i
        rw [List.length_append] at h1
        omega
       generalize hgr:(x.data.drop i).take 3=g at hO hgl hnl ⊢
       refine swo_openA (A:=GC b m (occs ds k++occD k x.data i)) atk (PlC.out g) ?_
       rintro ⟨w0,M,F⟩ ⟨hv0,hsh⟩
       dsimp only [List.cons_append,List.nil_append] at hv0 hsh ⊢
       generalize hGG:getG (grams (occs ds k++occD k x.data i)) g=L at hsh hnl ⊢
       have hfin : ∀ a' c' M',(∀ x,M' (.string x)=if x=g then some (.slice a' (L.length+1) c') else M (.string x)) -> ∀ h',all [MapC Tryz.prog 9 b (m+1) M',RowC 149 2 (.slice a' (L.length+1) c') (L.length+1) (L.flatMap encPl++[.int .i64 k,.int .i64 i]),F] h'->GC b (m+1) (occs ds k++occD k x.data (i+1)) h':=fun a' c' M' hM' h' e=>by
        have h1:=hsh (.slice a' (L.length+1) c') (L++[⟨k,i⟩]) (m+1) M' hM' h' (by rw [List.length_append,List.flatMap_append];exact e)
        unfold GC
        rw [hO,← List.append_assoc,grams_snoc,hGG]
        exact h1
       repeat' (first|((with_reducible apply kx_mgetF (kt:=9) (et:=62));kernel_rfl;exact Tryz.underlying9;exact ty_zero;rfl;rfl;exact hgl;(exact atk);exact hv0;(refine apk ?_))|(first|((with_reducible apply kx_append1);exact ty_el;exact ty_inf;rfl;rfl;rfl;(exact atk);(exact atk);rfl;omega;intro a' c';(refine apk ?_))|((with_reducible apply kx_appendN);exact ty_el;exact ty_inf;rfl;rfl;rfl;rfl;(exact atk);(exact atk);rfl;rfl;omega;intro a' c';(refine apk ?_)))|((with_reducible apply kx_mputS (kt:=9) (et:=62));kernel_rfl;exact Tryz.underlying9;rfl;rfl;rfl;exact hgl;(exact atk);(unfold maxLen;omega);intro M' hM';(refine apk ?_))|((with_reducible apply sw_joinA (c:= .region 11 _ _) (As:=[MapC Tryz.prog 9 b (m+1) M',RowC 149 2 (.slice a' (L.length+1) c') (L.length+1) (L.flatMap encPl++[.int .i64 k,.int .i64 i]),F]) (D:=GC b (m+1) (occs ds k++occD k x.data (i+1))));(with_reducible (exact atks));(intro h' e;exact hfin _ _ _ hM' h' e))|refine aw0 ?_|(refine ap2 ?_ ?_<;>try intro h)|refine aw1 ?_|(refine abx ?_;intro bb)|(refine abz ?_;intro bz)|(refine ahv ?_;intro v' hv')|(refine aac ?_;intro ac cc)|refine aw2 ?_|(refine ap4 ?_ ?_<;>try intro h)|apply True.intro)
       exact ⟨_,by omega,i+1,m+1,rfl,by omega,by omega,⟨_,atks⟩,asls⟩
     · rw [if_neg hg] at ha hO
       repeat' (first|refine aw0m ?_|(refine ap2 ?_ ?_<;>try intro h)|(refine acl Tryz.func89 ?_;refine acr (ha) ?_;rintro v' H' ⟨rfl,rfl⟩;refine apl ?_)|refine aw1m ?_|(refine abx ?_;intro bb)|(refine abz ?_;intro bz)|(refine ahv ?_;intro v' hv')|(refine aac ?_;intro ac cc)|refine aw2 ?_|(refine ap4 ?_ ?_<;>try intro h)|apply True.intro)
       exact ⟨_,by omega,i+1,m,rfl,by omega,by omega,⟨_,by rw [hO,List.append_nil];(exact atks)⟩,asls⟩
   · obtain rfl:i=x.data.length:=by omega
     repeat' (first|refine aw0m ?_|(refine ap2 ?_ ?_<;>try intro h)|refine aw1m ?_|(refine abx ?_;intro bb)|(refine abz ?_;intro bz)|(refine ahv ?_;intro v' hv')|(refine aac ?_;intro ac cc)|refine aw2 ?_|(refine ap4 ?_ ?_<;>try intro h)|apply True.intro)
     exact ⟨_,by omega,k+1,m,rfl,by omega,by rw [show tot ds (k+1)=tot ds k+(ds.getD k []).length from rfl,hdk];exact hm,⟨_,by rw [show occs ds (k+1)=occs ds k++occD k (ds.getD k []) (ds.getD k []).length from rfl,hdk];(exact atks)⟩,asls⟩
 · obtain rfl:k=bv.length:=by omega
   clear hat hve hv
   have hOl:=occs_len ds bv.length
   obtain ⟨hkd,hkm⟩:=grams_keys (occs ds bv.length)
   refine sw_open (A:=GC b m (occs ds bv.length)) (ι:=List PZ × (Lit->Option Value)) (B:=fun i=>[MapC Tryz.prog 9 b m i.2,all (rowsC 149 i.1)]) (φ:=fun i=>i.1.map (·.1)=grams (occs ds bv.length)/\(∀ g,i.2 (.string g)=valZ i.1 g) /\ ∀ z∈i.1,∃ a n c,z.2 = .slice a n c) atk (fun h ⟨Z,M,h1,h2,h3⟩=>⟨(Z,M),⟨h1,h2,rows_slice (h:=_) (Classical.choose_spec (Classical.choose_spec h3)).2.2.2⟩,(all_fold (L1:=[MapC Tryz.prog 9 b m M])).2 h3⟩) ?_
   rintro ⟨Z,M⟩ ⟨hZ,hM,hsl⟩
   dsimp only [List.cons_append,List.nil_append] at hZ hM hsl ⊢
   have hmk:makeP ds=(((Z.map (·.1.1)).mergeSort leB).map (zOf Z)).map (·.1):=by
    unfold makeP
    rw [hdl,← hZ,List.map_map,List.map_map]
    rfl
   rw [← hZ,List.map_map] at hkd hkm
   have hk2 : ∀ g,g∈Z.map (·.1.1)↔(valZ Z g).isSome=true:=fun g=>valZ_mem g Z
   have hkl:(Z.map (·.1.1)).length<=10000000:=by
    have h1:=grams_len (occs ds bv.length)
    rw [← hZ,List.length_map] at h1
    rw [List.length_map]
    omega
   have hperm:((Z.map (·.1.1)).mergeSort leB).Perm (Z.map (·.1.1)):=List.mergeSort_perm _ _
   have hzp:=zs_perm hkd hperm
   have hfin : ∀ a2 c2 h',all [RowC 145 2 (.slice a2 ((Z.map (·.1.1)).mergeSort leB).length c2) ((Z.map (·.1.1)).mergeSort leB).length ((((Z.map (·.1.1)).mergeSort leB).map (zOf Z)).flatMap encZ),all (rowsC 149 Z)] h'->PostC 145 149 (.slice a2 ((Z.map (·.1.1)).mergeSort leB).length c2) (makeP ds) h':=fun a2 c2 h' e=>by
    have e2:=(all_fold (L1:=[_]) (L2:=rowsC 149 Z)).1 e
    refine ⟨((Z.map (·.1.1)).mergeSort leB).map (zOf Z),hmk.symm,?_⟩
    rw [List.length_map]
    exact all_perm (List.Perm.cons _ (List.Perm.map _ hzp.symm)) e2
   have hsn:((Z.map (·.1.1)).mergeSort leB).length=(Z.map (·.1.1)).length:=hperm.length_eq
   have hsort:=fun (r':Hp) (bm:Nat) (hbm:r' bm=some (.cells #[.map (some b)] 162 (0,0))) (g:Hp) (hm:MapC Tryz.prog 9 b m M g) (hs:sub g r')=>sortedk_tri r' bm b m M g hbm hm hs (Z.map (·.1.1)) hkd (fun x=>by rw [hM,hk2]) hkl
   have hlen : ∀ g∈(Z.map (·.1.1)).mergeSort leB,g.length<=maxLen:=fun g hg=>by
    have h1:=(hkm g).1 (hperm.mem_iff.1 hg)
    obtain ⟨o,ho,rfl⟩:=List.mem_map.1 h1
    rw [occs_gram ho];decide
   generalize (Z.map (·.1.1)).mergeSort leB=ss at hsort hmk hperm hzp hsn hlen hfin
   rw [← hsn] at hsort
   repeat' (first|((with_reducible apply sw_freezeT (c:= .seq (.region 13 _ _) _) (A:=MapC Tryz.prog 9 b m M));(with_reducible (exact atk));intro r1 g1 hr1 hg1 hA1)|(refine acl Tryz.func91 ?_;refine acr (keys_tri _ _) ?_;rintro v' H' ⟨bm,rfl,rfl⟩;refine apl ?_)|refine aw0 ?_|(refine ap2 ?_ ?_<;>try intro h)|refine aw1 ?_|(refine abx ?_;intro bb)|(refine abz ?_;intro bz)|(refine ahv ?_;intro v' hv')|(refine aac ?_;intro ac cc)|refine aw2 ?_|(refine ap4 ?_ ?_<;>try intro h)|apply True.intro)
   repeat' (first|((with_reducible apply kx_lend [(bm,.cells #[.map (some b)] 162 (0,0))]);(exact atks);intro r' hl';refine acl Tryz.func90 ?_;refine acr (hsort _ bm (Lent.h1 hl') g1 hA1 (hg1.trans hl'.1)) ?_;rintro v' H' ⟨a,c,rfl,rfl⟩;all_goals refine apm ?_)|((with_reducible apply sw_freezeT (c:= .block 4 _) (A:=RowC 9 1 (.slice a ss.length c) ss.length (ss.map Go.Proofs.encStr)));(with_reducible (exact atk));intro r2 g2 hr2 hg2 hA2)|refine aw0 ?_|(refine ap2 ?_ ?_<;>try intro h)|refine aw1 ?_|(refine abx ?_;intro bb)|(refine abz ?_;intro bz)|(refine ahv ?_;intro v' hv')|(refine aac ?_;intro ac cc)|refine aw2 ?_|(refine ap4 ?_ ?_<;>try intro h)|apply True.intro)
   have hS:Els r2 1 encSt (.slice a ss.length c) ss:=⟨fun _=>rfl,by rw [← encSt_map];exact hA2.sl hg2⟩
   have hg12:=hg1.trans hr2
   clear hA2 hsort
   refine sw_put (A:=RowC 145 2 (.slice none 0 0) 0 []) (RowC.nil _ _) ?_
   refine sw_loop (fun gm t H' => ∃ (j:Nat) (a2:Option Addr) (c2:Nat),gm=ss.length+1 - j/\(j<=ss.length)/\(∃ G,Takes [RowC 145 2 (.slice a2 j c2) j (((ss.take j).map (zOf Z)).flatMap encZ),all (rowsC 149 Z)] H' G)/\Sls t 61 [(2,.slice a2 j c2),(3,.map (some b)),(45,.slice a ss.length c),(46,.int .i64 ss.length),(47,.int .i64 j)]) _ ⟨0,none,0,rfl,Nat.zero_le _,⟨_,by (exact atks)⟩,asls⟩ ?_
   rintro gm t H' ⟨j,a2,c2,rfl,hj,⟨G,hp⟩,hs'⟩
   revert t;refine sls_all ?_;iterate 56 intro uu'
   refine sw_takeG hp ?_;clear hp
   by_cases hlt2:j<ss.length
   · have hgl:=hlen _ (List.getElem_mem hlt2)
     have hse:ss[j]=ss.getD j default:=by rw [List.getD_eq_getElem?_getD,List.getElem?_eq_getElem hlt2];rfl
     have htk:(ss.take (j+1)).map (zOf Z)=(ss.take j).map (zOf Z)++[zOf Z (ss.getD j default)]:=by
      rw [List.take_succ_eq_append_getElem hlt2,List.map_append,hse];rfl
     rw [hse] at hgl
     have hss:ss.length<=10000000:=by omega
     repeat' (first|refine aw0m ?_|(refine ap2 ?_ ?_<;>try intro h)|refine aw1m ?_|(refine abx ?_;intro bb)|(refine abz ?_;intro bz)|(refine ahv ?_;intro v' hv')|(refine aac ?_;intro ac cc)|refine aw2 ?_|(refine ap4 ?_ ?_<;>try intro h)|apply True.intro)
     generalize ss.getD j default=g at hgl htk ⊢
     obtain ⟨ua,un,uc,hu⟩:=valZ_slice hsl g
     rw [← hM] at hu
     have hzo:encZ (zOf Z g)=[.string (bs g),.slice ua un uc]:=by rw [← hu,hM];rfl
     repeat' (first|refine aw0m ?_|(refine ap2 ?_ ?_<;>try intro h)|((with_reducible apply kx_mgetR (kt:=9) (et:=62));kernel_rfl;exact Tryz.underlying9;exact ty_zero;rfl;rfl;exact hgl;exact hA1;exact hg12;exact hu;(refine apk ?_))|(first|((with_reducible apply kx_append1);exact ty_el;exact ty_inf;rfl;rfl;rfl;(exact atk);(exact atk);rfl;omega;intro a' c';(refine apk ?_))|((with_reducible apply kx_appendN);exact ty_el;exact ty_inf;rfl;rfl;rfl;rfl;(exact atk);(exact atk);rfl;rfl;omega;intro a' c';(refine apk ?_)))|refine aw1m ?_|(refine abx ?_;intro bb)|(refine abz ?_;intro bz)|(refine ahv ?_;intro v' hv')|(refine aac ?_;intro ac cc)|refine aw2 ?_|(refine ap4 ?_ ?_<;>try intro h)|apply True.intro)
     exact ⟨_,by omega,j+1,a',c',rfl,by omega,⟨_,by rw [htk,List.flatMap_append,List.flatMap_cons,hzo];(exact atks)⟩,asls⟩
   · obtain rfl:j=ss.length:=by omega
     rw [List.take_length]
     repeat' (first|((with_reducible apply sw_joinA (c:= .region 18 _ _) (As:=[RowC 145 2 (.slice a2 ss.length c2) ss.length ((ss.map (zOf Z)).flatMap encZ),all (rowsC 149 Z)]) (D:=PostC 145 149 (.slice a2 ss.length c2) (makeP ds)));(with_reducible (exact atks));(intro h' e;exact hfin a2 c2 h' e))|refine aw0 ?_|(refine ap2 ?_ ?_<;>try intro h)|refine aw1 ?_|(refine abx ?_;intro bb)|(refine abz ?_;intro bz)|(refine ahv ?_;intro v' hv')|(refine aac ?_;intro ac cc)|refine aw2 ?_|(refine ap4 ?_ ?_<;>try intro h)|apply True.intro)
     ((with_reducible apply fp_ret);exact res_1 rfl rfl)
     exact HR.out _ _ _ [_] atks ⟨_,_,by rw [hmk,List.length_map,List.length_map],rfl⟩
end Go.Proofs.YtohpeoakdgckfaaGreat
namespace Go.Proofs.YtohpeoakdgckfaaGreat
open Go.RowKit Sx
def behP (a b:PlaceV):Bool:=decide (b.doc<a.doc) || decide (a.doc=b.doc) && decide (b.pos<a.pos)
theorem behind_any (r:Hp) (a b:PlaceV):Tri Tryz.prog r 158 [.agg (encPl a).toArray,.agg (encPl b).toArray] [] fun w H=>w = .bool (behP a b)/\H=[]:=by
 obtain ⟨ad,ap⟩:=a
 obtain ⟨bd,bp⟩:=b
 show Tri Tryz.prog r 158 [.agg [.int .i64 ad,.int .i64 ap].toArray,.agg [.int .i64 bd,.int .i64 bp].toArray] [] _
 refine Tri.free2 fun R HR=>?_
 refine ae Tryz.func158 Tryz.ntmps158 ?_
 by_cases h1:bd<ad
 · repeat' (first|exact xf|refine aw0 ?_|(refine ap2 ?_ ?_<;>try intro h)|refine aw1 ?_|(refine abx ?_;intro bb)|(refine abz ?_;intro bz)|(refine ahv ?_;intro v' hv')|(refine aac ?_;intro ac cc)|refine aw2 ?_|(refine ap4 ?_ ?_<;>try intro h)|apply True.intro)
   all_goals (((with_reducible apply fp_ret);exact res_1 rfl rfl);exact HR.out _ _ _ [] Takes.all ⟨by congr 1;simp [behP,h1],rfl⟩)
 · by_cases h2:ad=bd
   · repeat' (first|exact xf|refine aw0 ?_|(refine ap2 ?_ ?_<;>try intro h)|refine aw1 ?_|(refine abx ?_;intro bb)|(refine abz ?_;intro bz)|(refine ahv ?_;intro v' hv')|(refine aac ?_;intro ac cc)|refine aw2 ?_|(refine ap4 ?_ ?_<;>try intro h)|apply True.intro)
     all_goals (((with_reducible apply fp_ret);exact res_1 rfl rfl);exact HR.out _ _ _ [] Takes.all ⟨by congr 1;simp [behP,h2],rfl⟩)
   · repeat' (first|exact xf|refine aw0 ?_|(refine ap2 ?_ ?_<;>try intro h)|refine aw1 ?_|(refine abx ?_;intro bb)|(refine abz ?_;intro bz)|(refine ahv ?_;intro v' hv')|(refine aac ?_;intro ac cc)|refine aw2 ?_|(refine ap4 ?_ ?_<;>try intro h)|apply True.intro)
     all_goals (((with_reducible apply fp_ret);exact res_1 rfl rfl);exact HR.out _ _ _ [] Takes.all ⟨by congr 1;simp [behP,h1,h2],rfl⟩)
def placeOk (o:Option PlaceV) (p:PlaceV):Bool:=decide (0<=p.doc) && decide (p.doc<4000) && decide (0<=p.pos) && decide (p.pos<=1048576) && (match o with|none=>true|some a=>behP p a)
theorem fits_some (a p:PlaceV):fitsP a p=placeOk (some a) p:=by
 unfold fitsP placeOk behP
 simp only [eq_comm]
theorem fits_first (p:PlaceV):fitsP ⟨-1,0⟩ p=placeOk none p:=by
 unfold fitsP placeOk
 by_cases h:0<=p.doc
 · have h1:(decide ((-1:Int)<p.doc))=true:=decide_eq_true (by omega)
   simp [h1]
 · simp [h]
end Go.Proofs.YtohpeoakdgckfaaGreat
