/- mudlarkref19.Make: its contract. -/
import Derived.Test.YtohpeoakdgckfaaGreatIn
import Derived.Test.YtohpeoakdgckfaaGreatTw
import Derived.Test.YtohpeoakdgckfaaGreatLt
import Derived.Test.YtohpeoakdgckfaaGreatPf
import Derived.Test.YtohpeoakdgckfaaGreatEm
set_option maxHeartbeats 4000000
set_option maxRecDepth 10000
namespace Go.Proofs.YtohpeoakdgckfaaGreat
open Go.RowKit Sx
theorem zdp {d:Nat} {b:List UInt8} {i:Nat} (h:b.length<i+3) : ∀ n,i<=n->occD d b n=occD d b i
 | 0,hn=>by obtain rfl:i=0:=by omega
            rfl
 | n+1,hn=>by
  by_cases e:i=n+1
  · subst e;rfl
  · have hg:gramAt b n=false:=by
     unfold gramAt
     rw [decide_eq_false (p:=((n:Int)<=(b.length:Int) - 3)) (by omega),Bool.and_false]
    rw [occD,hg,if_neg (by simp),List.append_nil]
    exact zdp h n (by omega)
theorem zi3 {T:TypeId} : ∀ {Z:List PZ} {h:Hp},all (rowsC T Z) h -> ∀ z∈Z,∃ a c,z.2 = .slice a z.1.2.length c
 | [],_,_,_,hz=>by cases hz
 | y::Z,h,e,z,hz=>by
  obtain ⟨g,k,_,_,hR,hk⟩:=e
  rcases List.mem_cons.1 hz with rfl|hz
  · rcases hR.2 with ⟨h1,h2,_⟩ | ⟨b,cap,_,h1,_⟩
    · rw [h2];exact ⟨none,0,h1⟩
    · exact ⟨_,cap,h1⟩
  · exact zi3 hk z hz
theorem znj {T:TypeId} {Z1 Z2:List PZ} {z:PZ} (h:Hp) (e:all (rowsC T (Z1++z::Z2)) h):all [RowC T 2 z.2 z.1.2.length (z.1.2.flatMap encPl),all (rowsC T (Z1++Z2))] h:=by
 have hp:(rowsC T (Z1++z::Z2)).Perm (rowsC T (z::(Z1++Z2))):=List.Perm.map _ List.perm_middle
 exact (z1u (L1:=[_]) (L2:=rowsC T (Z1++Z2))).2 (z0j hp e)
theorem rows_mid' {T:TypeId} {Z1 Z2:List PZ} {z:PZ} (h:Hp) (e:all [RowC T 2 z.2 z.1.2.length (z.1.2.flatMap encPl),all (rowsC T (Z1++Z2))] h):all (rowsC T (Z1++z::Z2)) h:=by
 have hp:(rowsC T (Z1++z::Z2)).Perm (rowsC T (z::(Z1++Z2))):=List.Perm.map _ List.perm_middle
 exact z0j hp.symm ((z1u (L1:=[_]) (L2:=rowsC T (Z1++Z2))).1 e)
theorem znk {Z1 Z2:List PZ} {g:List UInt8} {l m:List PlaceV} {u v:Value}:((Z1++((g,l),u)::Z2).flatMap encZ).set (Z1.length*2+1) v=(Z1++((g,m),v)::Z2).flatMap encZ:=by
 have e:(Z1.flatMap encZ).length=Z1.length*2:=z2b (sz:=2) (enc:=encZ) (fun _=>rfl) Z1
 rw [List.flatMap_append,List.flatMap_append,List.set_append_right _ _ (by omega),e,show Z1.length*2+1 - Z1.length*2=1 by omega]
 rfl
theorem znl {Z:List PZ} {k:Nat} (h:k<Z.length):Z=Z.take k++Z.getD k default::Z.drop (k+1):=by
 rw [List.getD_eq_getElem?_getD,List.getElem?_eq_getElem h,Option.getD_some,← List.drop_eq_getElem_cons h,List.take_append_drop]
theorem znm {T:TypeId} {Z:List PZ} {h:Hp} (e:all (rowsC T Z) h) : ∀ z∈Z,one? z.2=true:=fun z hz=>by
 obtain ⟨a,c,e2⟩:=zi3 e z hz
 rw [e2];rfl
theorem zdq {W:List PZ} (h : ∀ z∈W,one? z.2=true):(W.flatMap encZ).all one?=true:=by
 rw [List.all_eq_true]
 intro v hv
 obtain ⟨p,hp1,hp⟩:=List.mem_flatMap.1 hv
 simp only [encZ,List.mem_cons,List.not_mem_nil,or_false] at hp
 rcases hp with rfl|rfl
 · rfl
 · exact h p hp1
theorem zsj {Z1 Z2:List PZ} {z:PZ}:(Z1++z::Z2).getD Z1.length default=z:=by
 rw [List.getD_eq_getElem?_getD,List.getElem?_append_right (Nat.le_refl _),Nat.sub_self];rfl
theorem zqj {S:List PostP} {g:List UInt8} {k:Nat} (hr:(S.map (·.1)).Pairwise (· < ·)) (h:k<S.length->g<(S.getD k default).1) : ∀ x∈S.drop k,g<x.1:=by
 intro x hx
 by_cases hk:k<S.length
 · have h1:=h hk
   rw [List.getD_eq_getElem?_getD,List.getElem?_eq_getElem hk,Option.getD_some] at h1
   rw [List.drop_eq_getElem_cons hk] at hx
   rcases List.mem_cons.1 hx with rfl|hx
   · exact h1
   · have h2:=hr.sublist ((List.drop_sublist k S).map (·.1))
     rw [List.drop_eq_getElem_cons hk,List.map_cons] at h2
     exact List.lt_trans h1 ((List.pairwise_cons.1 h2).1 _ (List.mem_map_of_mem hx))
 · rw [List.drop_eq_nil_of_le (by omega)] at hx
   cases hx
theorem zqk {O:List (List UInt8 × PlaceV)} {Z1 Z2:List PZ} {g:List UInt8} {l:List PlaceV} {u:Value} {q:PlaceV} (h:(Z1++((g,l),u)::Z2).map (·.1)=sortP O) (w:Value):(Z1++((g,l++[q]),w)::Z2).map (·.1)=sortP (O++[(g,q)])/\l.length<=O.length:=by
 rw [List.map_append,List.map_cons] at h ⊢
 refine ⟨zmd h.symm,?_⟩
 have h1:=z5a (O:=O) (x:=(g,l)) (by rw [← h];simp)
 dsimp only at h1
 rw [h1]
 exact z5b O g
theorem zql {O:List (List UInt8 × PlaceV)} {Z:List PZ} {g:List UInt8} {q:PlaceV} {k:Nat} (h:Z.map (·.1)=sortP O) (h1 : ∀ z∈Z.take k,z.1.1<g) (h2:k<Z.length->g<(Z.getD k default).1.1) (w:Value):(Z.take k++((g,[]++[q]),w)::Z.drop k).map (·.1)=sortP (O++[(g,q)]):=by
 rw [List.map_append,List.map_cons,List.map_take,List.map_drop,List.nil_append]
 refine zme (by rw [List.take_append_drop];exact h.symm) (fun x hx=>?_) ?_
 · rw [← List.map_take] at hx
   obtain ⟨z,hz,rfl⟩:=List.mem_map.1 hx
   exact h1 z hz
 · refine zqj (by rw [h];exact z5u O) fun hk=>?_
   rw [List.length_map] at hk
   have h3:=h2 hk
   rw [List.getD_eq_getElem?_getD,List.getElem?_map,List.getElem?_eq_getElem hk]
   rw [List.getD_eq_getElem?_getD,List.getElem?_eq_getElem hk] at h3
   exact h3
theorem zdr (r:Hp) (v:Value) (bv:List BytV) (hv:Rowz r v bv) (hn:bv.length<=1000000) (hl:tot (bv.map (·.data)) bv.length<=1000000):Tri Tryz.prog r 43 [v] [] fun w H =>
 ∃ a c,w = .slice a (makeP (bv.map (·.data))).length c/\H=[PostC 145 149 w (makeP (bv.map (·.data)))]:=by
 refine Tri.free2 fun R HR=>?_
 obtain ⟨ds,hds⟩ : ∃ ds,bv.map (·.data)=ds:=⟨_,rfl⟩
 have hdl:ds.length=bv.length:=by rw [← hds,List.length_map]
 have hat : ∀ k,k<bv.length->ds.getD k []=(bv.getD k default).data:=fun k hk=>by
  rw [← hds,List.getD_eq_getElem?_getD,List.getD_eq_getElem?_getD,List.getElem?_map,List.getElem?_eq_getElem hk];rfl
 rw [hds] at HR hl
 have hve:=hv.1
 refine ae Tryz.func43 Tryz.ntmps43 ?_
 refine z0f (A:=RowC 145 2 (.slice none 0 0) 0 []) (RowC.nil _ _) ?_
 refine z0f (A:=all (rowsC 149 [])) rfl ?_
 repeat' (first|refine aw0m ?_|(refine ap2 ?_ ?_<;>try intro h)|refine aw1m ?_|(refine abx ?_;intro bb)|(refine abz ?_;intro bz)|(refine ahv ?_;intro v' hv')|(refine aac ?_;intro ac cc)|refine aw2 ?_|(refine ap4 ?_ ?_<;>try intro h)|apply True.intro)
 refine z04 (fun gm t H' => ∃ (d:Nat) (Z:List PZ) (a:Option Addr) (c:Nat),gm=bv.length+1 - d/\(d<=bv.length)/\(Z.map (·.1)=sortP (occs ds d))/\(∃ G,Takes [RowC 145 2 (.slice a Z.length c) Z.length (Z.flatMap encZ),all (rowsC 149 Z)] H' G)/\Sls t 89 [(0,v),(3,.slice a Z.length c),(4,.int .i64 d)]) _ ⟨0,[],none,0,rfl,Nat.zero_le _,(by rw [show occs ds 0=[] from rfl];simp [sortP,grams]),⟨_,by (exact atks)⟩,asls⟩ ?_
 rintro gm t H' ⟨d,Z,a,c,rfl,hd,hZ,⟨G,hp⟩,hs'⟩
 revert t;refine z06 ?_;iterate 86 intro uu'
 refine z01 hp ?_;clear hp
 by_cases hlt:d<bv.length
 · have hb:=hv.2 _ (z0g hlt)
   have hdd:=hat d hlt
   have htk:tot ds d+(bv.getD d default).data.length<=1000000:=by
    have:=z91 ds (show d+1<=bv.length from hlt)
    rw [show tot ds (d+1)=tot ds d+(ds.getD d []).length from rfl,hdd] at this
    omega
   have hok:=z7c ds d
   repeat' (first|refine aw0m ?_|(refine ap2 ?_ ?_<;>try intro h)|refine aw1m ?_|(refine abx ?_;intro bb)|(refine abz ?_;intro bz)|(refine ahv ?_;intro v' hv')|(refine aac ?_;intro ac cc)|refine aw2 ?_|(refine ap4 ?_ ?_<;>try intro h)|apply True.intro)
   refine z04 (fun gm t H' => ∃ (i:Nat) (Z:List PZ) (a:Option Addr) (c:Nat),gm=(bv.getD d default).data.length+1 - i/\(i<=(bv.getD d default).data.length)/\(Z.map (·.1)=sortP (occs ds d++occD d (bv.getD d default).data i))/\(∃ G,Takes [RowC 145 2 (.slice a Z.length c) Z.length (Z.flatMap encZ),all (rowsC 149 Z)] H' G)/\Sls t 89 [(0,v),(3,.slice a Z.length c),(4,.int .i64 d),(5,.int .i64 i)]) _ ⟨0,Z,_,_,rfl,Nat.zero_le _,by rw [show occD d (bv.getD d default).data 0=[] from rfl,List.append_nil];exact hZ,⟨[],atks⟩,asls⟩ ?_
   rintro gm t H' ⟨i,Z,a,c,rfl,hi,hZ,⟨G,hp⟩,hs'⟩
   revert t;refine z06 ?_;iterate 85 intro uu'
   refine z01 hp ?_;clear hp
   by_cases hlt1:i+3<=(bv.getD d default).data.length
   · have hg:gramAt (bv.getD d default).data i=true:=by unfold gramAt;rw [decide_eq_true (by omega:(0:Int)<=i),decide_eq_true (by omega:(i:Int)<=((bv.getD d default).data.length:Int) - 3)];rfl
     have hO:occD d (bv.getD d default).data (i+1)=occD d (bv.getD d default).data i++[(((bv.getD d default).data.drop i).take 3,⟨d,i⟩)]:=by rw [occD,if_pos hg]
     have hOl:(occs ds d++occD d (bv.getD d default).data i).length<=1000000:=by
      have h3:=z7b d (bv.getD d default).data i
      rw [List.length_append];omega
     have hZl:Z.length<=1000000:=by
      have h1:=congrArg List.length hZ
      have h2:=zfb (occs ds d++occD d (bv.getD d default).data i)
      have h3:=z7b d (bv.getD d default).data i
      rw [List.length_map] at h1
      rw [List.length_append] at h2
      omega
     obtain ⟨gr,hgr⟩ : ∃ gr,((bv.getD d default).data.drop i).take 3=gr:=⟨_,rfl⟩
     have he3:List.take (((i:Int)+3).toNat - (i:Int).toNat) (List.drop (i:Int).toNat (bv.getD d default).data)=gr:=by
      rw [← hgr,show ((i:Int)+3).toNat - (i:Int).toNat=3 by omega,show (i:Int).toNat=i by omega]
     rw [hgr] at hO
     have hOO:occs ds d++occD d (bv.getD d default).data (i+1)=(occs ds d++occD d (bv.getD d default).data i)++[(gr,⟨d,i⟩)]:=by rw [hO,List.append_assoc]
     clear hO
     generalize occs ds d++occD d (bv.getD d default).data i=O at hZ hOO hOl
     repeat' (first|(rw [he3])|((with_reducible apply z0z);(with_reducible apply zpt);exact ty_el;kernel_rfl;kernel_rfl;rfl;(with_reducible assumption);(refine apk ?_))|((with_reducible apply sw_midM (c1:= .block 4 _) (I:=fun t' H' => ∃ k:Nat,k<=Z.length/\(∀ z∈Z.take k,z.1.1<gr)/\(k<Z.length->¬ (Z.getD k default).1.1<gr)/\(∃ G,Takes [RowC 145 2 (.slice a Z.length c) Z.length (Z.flatMap encZ),all (rowsC 149 Z)] H' G)/\(t'.length=89/\t'[0]?=some (v)/\t'[3]?=some (.slice a Z.length c)/\t'[4]?=some (.int .i64 d)/\t'[5]?=some (.int .i64 i)/\t'[6]?=some (.string (bs gr))/\t'[7]?=some (.int .i64 k)))))|refine aw0 ?_|(refine ap2 ?_ ?_<;>try intro h)|refine aw1 ?_|(refine abx ?_;intro bb)|(refine abz ?_;intro bz)|(refine ahv ?_;intro v' hv')|(refine aac ?_;intro ac cc)|refine aw2 ?_|(refine ap4 ?_ ?_<;>try intro h)|apply True.intro)
     · repeat' (first|refine aw0m ?_|(refine ap2 ?_ ?_<;>try intro h)|refine aw1m ?_|(refine abx ?_;intro bb)|(refine abz ?_;intro bz)|(refine ahv ?_;intro v' hv')|(refine aac ?_;intro ac cc)|refine aw2 ?_|(refine ap4 ?_ ?_<;>try intro h)|apply True.intro)
       refine z04 (fun gm t H' => ∃ (k:Nat),gm=Z.length+1 - k/\(k<=Z.length)/\(∀ z∈Z.take k,z.1.1<gr)/\(∃ G,Takes [RowC 145 2 (.slice a Z.length c) Z.length (Z.flatMap encZ),all (rowsC 149 Z)] H' G)/\Sls t 89 [(0,v),(3,.slice a Z.length c),(4,.int .i64 d),(5,.int .i64 i),(6,.string (bs gr)),(7,.int .i64 k)]) _ ⟨0,rfl,Nat.zero_le _,(fun z hz=>by cases hz),⟨_,by (exact atks)⟩,asls⟩ ?_
       rintro gm t H' ⟨k,rfl,hk,hlow,⟨G,hp⟩,hs'⟩
       revert t;refine z06 ?_;iterate 83 intro uu'
       refine z01 hp ?_;clear hp
       by_cases hlt2:k<Z.length
       · by_cases hc:Op.bytesLess (Z.getD k default).1.1 gr=true
         · repeat' (first|((with_reducible apply zdf (ia:=inferInstance) (enc:=encZ) (xs:=Z) (sz:=2) (j:=0) (i:=k));(intro _;rfl);rfl;(exact atk);(omega);rfl;(refine apk ?_))|(rw [hc])|exact xf|refine aw0 ?_|(refine ap2 ?_ ?_<;>try intro h)|refine aw1 ?_|(refine abx ?_;intro bb)|(refine abz ?_;intro bz)|(refine ahv ?_;intro v' hv')|(refine aac ?_;intro ac cc)|refine aw2 ?_|(refine ap4 ?_ ?_<;>try intro h)|apply True.intro)
           exact ⟨_,by omega,k+1,rfl,by omega,(fun z hz=>by
            rw [z10 (d:=default) hlt2,List.mem_append,List.mem_singleton] at hz
            rcases hz with hz|rfl
            · exact hlow z hz
            · exact (z79 _ _).1 hc),⟨_,atks⟩,asls⟩
         · have hc':Op.bytesLess (Z.getD k default).1.1 gr=false:=by simpa using hc
           repeat' (first|((with_reducible apply zdf (ia:=inferInstance) (enc:=encZ) (xs:=Z) (sz:=2) (j:=0) (i:=k));(intro _;rfl);rfl;(exact atk);(omega);rfl;(refine apk ?_))|(rw [hc'])|exact xf|refine aw0 ?_|(refine ap2 ?_ ?_<;>try intro h)|refine aw1 ?_|(refine abx ?_;intro bb)|(refine abz ?_;intro bz)|(refine ahv ?_;intro v' hv')|(refine aac ?_;intro ac cc)|refine aw2 ?_|(refine ap4 ?_ ?_<;>try intro h)|apply True.intro)
           exact ⟨k,hk,hlow,fun _ h=>hc ((z79 _ _).2 h),⟨_,by (exact atks)⟩,rfl,rfl,rfl,rfl,rfl,rfl,rfl⟩
       · repeat' (first|exact xf|refine aw0 ?_|(refine ap2 ?_ ?_<;>try intro h)|refine aw1 ?_|(refine abx ?_;intro bb)|(refine abz ?_;intro bz)|(refine ahv ?_;intro v' hv')|(refine aac ?_;intro ac cc)|refine aw2 ?_|(refine ap4 ?_ ?_<;>try intro h)|apply True.intro)
         exact ⟨k,hk,hlow,fun h=>absurd h hlt2,⟨_,by (exact atks)⟩,rfl,rfl,rfl,rfl,rfl,rfl,rfl⟩
     · rintro t H' ⟨k,hk,hlow,hstop,⟨G,hp⟩,hlen,e0,e3,e4,e5,e6,e7⟩
       revert e0 e3 e4 e5 e6 e7;revert t;refine z0s (n:=89) ?_;intro u0 u1 u2 u3 u4 u5 u6 u7 u8 u9 u10 u11 u12 u13 u14 u15 u16 u17 u18 u19 u20 u21 u22 u23 u24 u25 u26 u27 u28 u29 u30 u31 u32 u33 u34 u35 u36 u37 u38 u39 u40 u41 u42 u43 u44 u45 u46 u47 u48 u49 u50 u51 u52 u53 u54 u55 u56 u57 u58 u59 u60 u61 u62 u63 u64 u65 u66 u67 u68 u69 u70 u71 u72 u73 u74 u75 u76 u77 u78 u79 u80 u81 u82 u83 u84 u85 u86 u87 u88 e0 e3 e4 e5 e6 e7;cases e0;cases e3;cases e4;cases e5;cases e6;cases e7
       refine z01 hp ?_
       clear hp
       refine sw_midM (c1:= .seq _ _) (I:=fun t' H' => ∃ (Z1 Z2:List PZ) (l:List PlaceV) (u:Value) (a2:Option Addr) (c2:Nat),(∀ w:Value,(Z1++((gr,l++[⟨d,i⟩]),w)::Z2).map (·.1)=sortP (O++[(gr,⟨d,i⟩)]))/\Z1.length+1+Z2.length<=1000001/\l.length<=1000000/\(∃ G,Takes [RowC 145 2 (.slice a2 (Z1.length+1+Z2.length) c2) (Z1.length+1+Z2.length) ((Z1++((gr,l),u)::Z2).flatMap encZ),RowC 149 2 u l.length (l.flatMap encPl),all (rowsC 149 (Z1++Z2))] H' G)/\(t'.length=89/\t'[0]?=some (v)/\t'[3]?=some (.slice a2 (Z1.length+1+Z2.length) c2)/\t'[4]?=some (.int .i64 d)/\t'[5]?=some (.int .i64 i)/\t'[7]?=some (.int .i64 (Z1.length:Nat)))) ?_ ?_
       · refine sw_midM (c1:= .region 12 _ _) (I:=fun t' H' => ∃ nw:Bool,(nw=true->k<Z.length->¬ (Z.getD k default).1.1=gr)/\(nw=false->k<Z.length/\(Z.getD k default).1.1=gr)/\(∃ G,Takes [RowC 145 2 (.slice a Z.length c) Z.length (Z.flatMap encZ),all (rowsC 149 Z)] H' G)/\(t'.length=89/\t'[0]?=some (v)/\t'[3]?=some (.slice a Z.length c)/\t'[4]?=some (.int .i64 d)/\t'[5]?=some (.int .i64 i)/\t'[6]?=some (.string (bs gr))/\t'[7]?=some (.int .i64 k)/\t'[60]?=some (.bool nw))) ?_ ?_
         · by_cases hlt2:k<Z.length
           · repeat' (first|((with_reducible apply zdf (ia:=inferInstance) (enc:=encZ) (xs:=Z) (sz:=2) (j:=0) (i:=k));(intro _;rfl);rfl;(exact atk);(omega);rfl;(refine apk ?_))|exact xf|refine aw0 ?_|(refine ap2 ?_ ?_<;>try intro h)|refine aw1 ?_|(refine abx ?_;intro bb)|(refine abz ?_;intro bz)|(refine ahv ?_;intro v' hv')|(refine aac ?_;intro ac cc)|refine aw2 ?_|(refine ap4 ?_ ?_<;>try intro h)|apply True.intro)
             exact ⟨_,(by intro h _;simpa using h),(by intro h;exact ⟨hlt2,by simpa using h⟩),⟨_,by (exact atks)⟩,rfl,rfl,rfl,rfl,rfl,rfl,rfl,rfl⟩
           · repeat' (first|exact xf|refine aw0 ?_|(refine ap2 ?_ ?_<;>try intro h)|refine aw1 ?_|(refine abx ?_;intro bb)|(refine abz ?_;intro bz)|(refine ahv ?_;intro v' hv')|(refine aac ?_;intro ac cc)|refine aw2 ?_|(refine ap4 ?_ ?_<;>try intro h)|apply True.intro)
             exact ⟨_,(fun _ h=>absurd h hlt2),(by intro h;cases h),⟨_,by (exact atks)⟩,rfl,rfl,rfl,rfl,rfl,rfl,rfl,rfl⟩
         · rintro t H' ⟨nw,hn1,hn0,⟨G,hp⟩,hlen,e0,e3,e4,e5,e6,e7,e60⟩
           revert e0 e3 e4 e5 e6 e7 e60;revert t;refine z0s (n:=89) ?_;intro u0 u1 u2 u3 u4 u5 u6 u7 u8 u9 u10 u11 u12 u13 u14 u15 u16 u17 u18 u19 u20 u21 u22 u23 u24 u25 u26 u27 u28 u29 u30 u31 u32 u33 u34 u35 u36 u37 u38 u39 u40 u41 u42 u43 u44 u45 u46 u47 u48 u49 u50 u51 u52 u53 u54 u55 u56 u57 u58 u59 u60 u61 u62 u63 u64 u65 u66 u67 u68 u69 u70 u71 u72 u73 u74 u75 u76 u77 u78 u79 u80 u81 u82 u83 u84 u85 u86 u87 u88 e0 e3 e4 e5 e6 e7 e60;cases e0;cases e3;cases e4;cases e5;cases e6;cases e7;cases e60
           refine z01 hp ?_
           clear hp
           cases nw
           · obtain ⟨hlt2,hq⟩:=hn0 rfl
             obtain ⟨Z1,z,Z2,hZs,hZ1⟩ : ∃ Z1 z Z2,Z=Z1++z::Z2/\Z1.length=k/\z=Z.getD k default:=⟨_,_,_,znl hlt2,by rw [List.length_take];omega,rfl⟩
             obtain ⟨rfl,hz⟩:=hZ1
             rw [← hz] at hq
             obtain ⟨⟨g',l⟩,u⟩:=z
             obtain rfl:g'=gr:=hq
             clear hz hn0 hn1 hstop hlow
             subst hZs
             refine sw_joinC (As:=[all (rowsC 149 (Z1++((g',l),u)::Z2))]) (Ds:=[RowC 149 2 u l.length (l.flatMap encPl),all (rowsC 149 (Z1++Z2))]) atks (fun h e=>znj h (z11.1 e)) ?_
             simp only [List.cons_append,List.nil_append]
             have hln:(Z1++((g',l),u)::Z2).length=Z1.length+1+Z2.length:=by simp;omega
             rw [hln] at hZl ⊢
             have hmh:=fun w=>zqk (q:=⟨(d:Int),(i:Int)⟩) hZ w
             repeat' (first|exact xf|refine aw0 ?_|(refine ap2 ?_ ?_<;>try intro h)|refine aw1 ?_|(refine abx ?_;intro bb)|(refine abz ?_;intro bz)|(refine ahv ?_;intro v' hv')|(refine aac ?_;intro ac cc)|refine aw2 ?_|(refine ap4 ?_ ?_<;>try intro h)|apply True.intro)
             exact ⟨Z1,Z2,l,u,a,c,fun w=>(hmh w).1,by omega,Nat.le_trans (hmh u).2 hOl,⟨_,by (exact atks)⟩,rfl,rfl,rfl,rfl,rfl,rfl⟩
           · have hnx:=hn1 rfl
             have hgt:k<Z.length->gr<(Z.getD k default).1.1:=fun h=>ziu (hstop h) (hnx h)
             have hmn:=zql (q:=⟨(d:Int),(i:Int)⟩) hZ hlow hgt
             refine zcb (A:=all (rowsC 149 Z)) atk (fun g h=>znm h) ?_
             intro hone
             have ho1:=zdq (W:=Z.take k) fun z hz=>hone z (List.mem_of_mem_take hz)
             have ho2:=zdq (W:=Z.drop k) fun z hz=>hone z (List.mem_of_mem_drop hz)
             have hlt1:(Z.take k).length=k:=by rw [List.length_take];omega
             have hlt2:(Z.drop k).length=Z.length - k:=List.length_drop ..
             refine z0f (A:=RowC 149 2 (.slice none 0 0) 0 []) (RowC.nil _ _) ?_
             have hk1:(k:Int).toNat - Int.toNat 0=k:=by omega
             have hk2:(Z.length:Int).toNat - (k:Int).toNat=Z.length - k:=by omega
             have hs1 : ∀ {r:Hp} (v':Value),Els r 2 encZ v' (List.take ((k:Int).toNat - Int.toNat 0) (List.drop (Int.toNat 0) Z))->Sl r 2 v' k ((Z.take k).flatMap encZ):=fun v' h=>by
              have:=h.2
              rw [show List.take ((k:Int).toNat - Int.toNat 0) (List.drop (Int.toNat 0) Z)=Z.take k by rw [hk1];rfl,hlt1] at this
              exact this
             have hs2 : ∀ {r:Hp} (v':Value),Els r 2 encZ v' (List.take ((Z.length:Int).toNat - (k:Int).toNat) (List.drop (k:Int).toNat Z))->Sl r 2 v' (Z.length - k) ((Z.drop k).flatMap encZ):=fun v' h=>by
              have:=h.2
              rw [show List.take ((Z.length:Int).toNat - (k:Int).toNat) (List.drop (k:Int).toNat Z)=Z.drop k by
               rw [hk2,show (k:Int).toNat=k by omega,← hlt2,List.take_length],hlt2] at this
              exact this
             repeat' (first|((with_reducible apply z12 (A:=RowC 145 2 (.slice a Z.length c) Z.length (Z.flatMap encZ)));(with_reducible (exact atk));intro r1 g1 hr1 hg1 hA1;have hvE:Els r1 2 encZ (.slice a Z.length c) Z:=⟨fun _=>rfl,hA1.sl hg1⟩)|(first|((with_reducible apply z1h (id:=13) 13 (Pl.seg [(1,true),(2,true),(3,true),(5,true),(6,true),(9,true),(10,true),(11,true)] (Pl.two 0 7 (Pl.seg [] (Pl.two 4 7 (Pl.seg [(7,false),(8,false),(12,false)] Pl.leaf) (Pl.seg [(4,false),(8,false),(12,false)] Pl.leaf))) (Pl.seg [(0,false),(4,false),(8,false),(12,false)] Pl.leaf))) (List.replicate 13 true++List.replicate 1 false).toArray [(13,false)] []);kernel_rfl;(exact atks);kernel_rfl;intro r' hl'))|((with_reducible apply z0v (news:=(Z.take k).flatMap encZ));exact ty_el;exact z03;rfl;rfl;rfl;rfl;(first|exact hs1 _ hv'|exact hs1 _ (by assumption));(exact atk);exact ho1;(unfold maxLen;omega);(omega);intro a' c';(refine apk ?_))|((with_reducible apply z0v (news:=(Z.drop k).flatMap encZ));exact ty_el;exact z03;rfl;rfl;rfl;rfl;(first|exact hs2 _ hv'|exact hs2 _ (by assumption));(exact atk);exact ho2;(unfold maxLen;omega);(omega);intro a' c';(refine apk ?_))|(first|((with_reducible apply z0t);exact ty_el;exact z03;rfl;rfl;rfl;intro bz;(refine apk ?_))|((with_reducible apply z0y);exact ty_el;exact z03;rfl;rfl;rfl;intro bz;(refine apk ?_)))|(first|((with_reducible apply z0d);exact ty_el;exact z03;rfl;rfl;rfl;(exact atk);(exact atk);rfl;omega;intro a' c';(refine apk ?_))|((with_reducible apply z0m);exact ty_el;exact z03;rfl;rfl;rfl;rfl;(exact atk);(exact atk);rfl;rfl;omega;intro a' c';(refine apk ?_)))|exact xf|refine aw0 ?_|(refine ap2 ?_ ?_<;>try intro h)|refine aw1 ?_|(refine abx ?_;intro bb)|(refine abz ?_;intro bz)|(refine ahv ?_;intro v' hv')|(refine aac ?_;intro ac cc)|refine aw2 ?_|(refine ap4 ?_ ?_<;>try intro h)|apply True.intro)
             all_goals
              have hln:(Z.take k).length+1+(Z.drop k).length=0+k+1+(Z.length - k):=by omega
              have htd:all (rowsC 149 (Z.take k++Z.drop k))=all (rowsC 149 Z):=by rw [List.take_append_drop]
              have hrow:(Z.take k++((gr,[]),.slice none 0 0)::Z.drop k).flatMap encZ=(Z.take k).flatMap encZ++[.string (bs gr),.slice none 0 0]++(Z.drop k).flatMap encZ:=by
               rw [List.flatMap_append,List.flatMap_cons,← List.append_assoc];rfl
              refine ⟨Z.take k,Z.drop k,[],.slice none 0 0,a',c',hmn,by omega,Nat.zero_le _,⟨_,by rw [hln,htd,hrow];(exact atks)⟩,?_⟩
              rw [hln,hlt1]
              exact ⟨rfl,rfl,rfl,rfl,rfl,rfl⟩
       · rintro t H' ⟨Z1,Z2,l,u,a2,c2,hZw,hbd,hlb,⟨G,hp⟩,hlen,e0,e3,e4,e5,e7⟩
         revert e0 e3 e4 e5 e7;revert t;refine z0s (n:=89) ?_;intro u0 u1 u2 u3 u4 u5 u6 u7 u8 u9 u10 u11 u12 u13 u14 u15 u16 u17 u18 u19 u20 u21 u22 u23 u24 u25 u26 u27 u28 u29 u30 u31 u32 u33 u34 u35 u36 u37 u38 u39 u40 u41 u42 u43 u44 u45 u46 u47 u48 u49 u50 u51 u52 u53 u54 u55 u56 u57 u58 u59 u60 u61 u62 u63 u64 u65 u66 u67 u68 u69 u70 u71 u72 u73 u74 u75 u76 u77 u78 u79 u80 u81 u82 u83 u84 u85 u86 u87 u88 e0 e3 e4 e5 e7;cases e0;cases e3;cases e4;cases e5;cases e7
         refine z01 hp ?_
         clear hp
         have hln : ∀ w:Value,(Z1++((gr,l++[⟨d,i⟩]),w)::Z2).length=Z1.length+1+Z2.length:=fun w=>by simp;omega
         have hjn : ∀ a' c' h',all [RowC 149 2 (.slice a' (l.length+1) c') (l.length+1) (l.flatMap encPl++[.int .i64 d,.int .i64 i]),all (rowsC 149 (Z1++Z2))] h'->all (rowsC 149 (Z1++((gr,l++[⟨d,i⟩]),.slice a' (l.length+1) c')::Z2)) h':=fun a' c' h' e=>by
          refine rows_mid' (z:=((gr,l++[⟨d,i⟩]),.slice a' (l.length+1) c')) h' ?_
          show all [RowC 149 2 (.slice a' (l.length+1) c') (l++[(⟨d,i⟩:PlaceV)]).length ((l++[(⟨d,i⟩:PlaceV)]).flatMap encPl),all (rowsC 149 (Z1++Z2))] h'
          rw [List.length_append,List.flatMap_append]
          exact e
         have hm0:Z1.length<(Z1++((gr,l),u)::Z2).length:=by simp
         have hmid:(encZ ((Z1++((gr,l),u)::Z2).getD Z1.length default))[1]?=some u:=by rw [zsj];rfl
         have hlen2:((Z1++((gr,l),u)::Z2).flatMap encZ).length=(Z1.length+1+Z2.length)*2:=by rw [z2b (sz:=2) (fun _=>rfl)];congr 1;simp;omega
         repeat' (first|((with_reducible apply zdf (ia:=inferInstance) (enc:=encZ) (xs:=Z1++((gr,l),u)::Z2) (sz:=2) (j:=1) (i:=Z1.length));(intro _;rfl);rfl;(exact atk);exact hm0;exact hmid;(refine apk ?_))|((with_reducible apply z0b (c:= .region 7 _ _) (As:=[RowC 149 2 (.slice a' (l.length+1) c') (l.length+1) (l.flatMap encPl++[.int .i64 d,.int .i64 i]),all (rowsC 149 (Z1++Z2))]) (D:=all (rowsC 149 (Z1++((gr,l++[⟨d,i⟩]),.slice a' (l.length+1) c')::Z2))));(with_reducible (exact atks));(exact hjn a' c'))|(first|((with_reducible apply z0t);exact ty_el;exact z03;rfl;rfl;rfl;intro bz;(refine apk ?_))|((with_reducible apply z0y);exact ty_el;exact z03;rfl;rfl;rfl;intro bz;(refine apk ?_)))|(first|((with_reducible apply z0d);exact ty_el;exact z03;rfl;rfl;rfl;(exact atk);(exact atk);rfl;omega;intro a' c';(refine apk ?_))|((with_reducible apply z0m);exact ty_el;exact z03;rfl;rfl;rfl;rfl;(exact atk);(exact atk);rfl;rfl;omega;intro a' c';(refine apk ?_)))|((with_reducible apply zhx (sz:=2) (i:=Z1.length) (j:=1));exact z08;rfl;rfl;(exact atk);rfl;(omega);(refine apk ?_))|exact xf|refine aw0 ?_|(refine ap2 ?_ ?_<;>try intro h)|refine aw1 ?_|(refine abx ?_;intro bb)|(refine abz ?_;intro bz)|(refine ahv ?_;intro v' hv')|(refine aac ?_;intro ac cc)|refine aw2 ?_|(refine ap4 ?_ ?_<;>try intro h)|apply True.intro)
         rw [znk (m:=l++[⟨d,i⟩]),← hln (.slice a' (l.length+1) c')]
         exact ⟨_,by omega,i+1,Z1++((gr,l++[⟨d,i⟩]),.slice a' (l.length+1) c')::Z2,a2,c2,rfl,by omega,by rw [hOO];exact hZw _,⟨_,atks⟩,asls⟩
   · repeat' (first|exact xf|refine aw0 ?_|(refine ap2 ?_ ?_<;>try intro h)|refine aw1 ?_|(refine abx ?_;intro bb)|(refine abz ?_;intro bz)|(refine ahv ?_;intro v' hv')|(refine aac ?_;intro ac cc)|refine aw2 ?_|(refine ap4 ?_ ?_<;>try intro h)|apply True.intro)
     exact ⟨_,by omega,d+1,Z,a,c,rfl,by omega,by
      rw [show occs ds (d+1)=occs ds d++occD d (ds.getD d []) (ds.getD d []).length from rfl,hdd,zdp (by omega) _ hi]
      exact hZ,⟨_,atks⟩,asls⟩
 · obtain rfl:d=bv.length:=by omega
   have hmk:Z.map (·.1)=makeP ds:=by rw [hZ,zbi,hdl]
   have hml:Z.length=(makeP ds).length:=by rw [← hmk,List.length_map]
   refine z0b (As:=[RowC 145 2 (.slice a Z.length c) Z.length (Z.flatMap encZ),all (rowsC 149 Z)]) (D:=PostC 145 149 (.slice a Z.length c) (makeP ds)) atks (fun h e=>⟨Z,hmk,(z1u (L1:=[_]) (L2:=rowsC 149 Z)).1 e⟩) ?_
   rw [hml]
   repeat' (first|exact xf|refine aw0 ?_|(refine ap2 ?_ ?_<;>try intro h)|refine aw1 ?_|(refine abx ?_;intro bb)|(refine abz ?_;intro bz)|(refine ahv ?_;intro v' hv')|(refine aac ?_;intro ac cc)|refine aw2 ?_|(refine ap4 ?_ ?_<;>try intro h)|apply True.intro)
   ((with_reducible apply z00);exact res_1 rfl rfl)
   exact HR.out _ _ _ [PostC 145 149 _ _] atks ⟨_,_,rfl,rfl⟩
end Go.Proofs.YtohpeoakdgckfaaGreat
