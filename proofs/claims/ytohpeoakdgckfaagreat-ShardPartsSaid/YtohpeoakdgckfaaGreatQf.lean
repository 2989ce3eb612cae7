/- mudlarkref19.Put: its contract. -/
import Derived.Test.YtohpeoakdgckfaaGreatGr
import Derived.Test.YtohpeoakdgckfaaGreatKj
import Derived.Test.YtohpeoakdgckfaaGreatPq
import Derived.Test.YtohpeoakdgckfaaGreatQd
set_option maxHeartbeats 4000000
set_option maxRecDepth 10000
namespace Go.Proofs.YtohpeoakdgckfaaGreat
open Go.RowKit Sx
theorem z3g (r:Hp) (g:Nat) (v:Value) (l:List UInt8) (i:Int) (hn:0<=i/\i<=1099511627776) (hl:l.length<=60000000000000):Tri Tryz.prog r 97 [.pointer (some ⟨g,0,none⟩),.int .i64 i] [pt g (rwr v false),U8R v l] fun _ H => ∃ v',H=[pt g (rwr v' false),U8R v' (l++septs i.toNat)]:=by
 have h:=z2r r g v l i.toNat (by unfold maxNum;omega) hl
 rw [show ((i.toNat:Nat):Int)=i by omega] at h
 exact h
theorem zgo (r:Hp) (g:Nat) (v:Value) (l:List UInt8) (i:Int) (hn:0<=i/\i<=1099511627776) (hl:l.length<=60000000000000):Tri Tryz.prog r 97 [.pointer (some ⟨g,0,none⟩),.int .i64 i] [pt g (rwr v false),U8M v l] fun _ H => ∃ v',H=[pt g (rwr v' false),U8M v' (l++septs i.toNat)]:=by
 have h:=z7t r g v l i.toNat (by unfold maxNum;omega) hl
 rw [show ((i.toNat:Nat):Int)=i by omega] at h
 exact h
theorem ze9 (r:Hp) (v:Value) (ls:List PlaceV) (a0:PlaceV) (hv:Els r 2 encPl v ls) (hne:0<ls.length) (hc0:chainP a0 ls=true) (hl:ls.length<=1000000):Tri Tryz.prog r 159 [v] [] fun w H => ∃ a c,w = .slice a (block1 ls).length c/\H=[U8R w (block1 ls)]:=by
 refine Tri.free2 fun R HR=>?_
 have h0:chainP ⟨(ls.getD 0 default).doc,-1⟩ ls=true/\0<=(ls.getD 0 default).doc/\(ls.getD 0 default).doc<4000:=by
  cases ls with
  | nil=>simp at hne
  | cons p ls =>
   rw [chainP,Bool.and_eq_true] at hc0
   have hf:=hc0.1
   simp only [fitsP,Bool.and_eq_true,Bool.or_eq_true,decide_eq_true_eq] at hf
   refine ⟨?_,hf.1.1.1.1,hf.1.1.1.2⟩
   rw [chainP,hc0.2]
   simp only [fitsP,List.getD_cons_zero,Bool.and_true,Bool.and_eq_true,Bool.or_eq_true,decide_eq_true_eq]
   refine ⟨hf.1,.inr ⟨trivial,?_⟩⟩
   have:=hf.1.1.2
   omega
 have hb1:block1 ls=blockB ⟨(ls.getD 0 default).doc,-1⟩ ls:=by cases ls<;>rfl
 have hbl:=z7o ls _ h0.1 h0.2.1 (by simp)
 rw [← hb1] at hbl
 refine ae Tryz.func159 Tryz.ntmps159 ?_
 refine z0f (A:=RowC 5 1 (.slice none 0 0) 0 []) (RowC.nil _ _) ?_
 repeat' (first|refine aw0m ?_|(refine ap2 ?_ ?_<;>try intro h)|refine aw1m ?_|(refine abx ?_;intro bb)|(refine abz ?_;intro bz)|(refine ahv ?_;intro v' hv')|(refine aac ?_;intro ac cc)|refine aw2 ?_|(refine ap4 ?_ ?_<;>try intro h)|apply True.intro)
 refine z04 (fun gm t H' => ∃ (k bw:Nat) (wv:Value) (W:List UInt8) (a:PlaceV),gm=ls.length+1 - k/\(k<=ls.length)/\(block1 ls=W++blockB a (ls.drop k))/\(chainP a (ls.drop k)=true)/\(0<=a.doc/\a.doc<4000)/\(-1<=a.pos/\a.pos<=1048576)/\((k=0->a=⟨(ls.getD 0 default).doc,-1⟩)/\(¬ k=0->ls.getD (k - 1) default=a))/\(∃ G,Takes [pt bw (rwr wv false),U8R wv W] H' G)/\Sls t 59 [(0,v),(3,.pointer (some ⟨bw,0,none⟩)),(4,.int .i64 k)]) _ ⟨0,_,.slice none 0 0,[],⟨(ls.getD 0 default).doc,-1⟩,rfl,Nat.zero_le _,hb1,h0.1,h0.2,by simp,⟨fun _=>rfl,fun h=>absurd rfl h⟩,⟨_,by (exact atks)⟩,asls⟩ ?_
 rintro gm t H' ⟨k,bw,wv,W,a,rfl,hk,hW,hc,had,hap,ha,⟨G,hp⟩,hs'⟩
 revert t;refine z06 ?_;iterate 56 intro uu'
 refine z01 hp ?_;clear hp
 by_cases hlt:k<ls.length
 · rw [z2t hlt,chainP,Bool.and_eq_true] at hc
   have hf:=hc.1
   simp only [fitsP,Bool.and_eq_true,Bool.or_eq_true,decide_eq_true_eq] at hf
   rw [z2t hlt,blockB] at hW
   have hWl:W.length<=12000000:=by
    have:=congrArg List.length hW
    rw [List.length_append] at this
    omega
   have hnx : ∀ p,ls.getD k default=p->((k+1=0->p=(⟨(ls.getD 0 default).doc,-1⟩:PlaceV))/\(¬ k+1=0->ls.getD (k+1 - 1) default=p)):=fun p e=>⟨fun h=>absurd h (by omega),fun _=>by rw [Nat.add_sub_cancel];exact e⟩
   obtain ⟨p,hp⟩ : ∃ p,ls.getD k default=p:=⟨_,rfl⟩
   have hnx:=hnx p hp
   by_cases hk0:k=0
   · have ha0:=ha.1 hk0
     have hpd:p.doc=a.doc/\a.pos = -1:=by
      rw [ha0,← hp,hk0];exact ⟨rfl,rfl⟩
     rw [hp] at hW hc hf
     rw [if_pos hpd.1,show p.pos - (a.pos+1)=p.pos by omega,show (p.doc - a.doc).toNat=0 by omega] at hW
     have hW1:(W++septs (0:Int).toNat).length<=12000010:=by
      have:=z09 (n:=0) (by unfold maxNum;omega)
      rw [List.length_append];show W.length+(septs 0).length<=_;omega
     repeat' (first|(first|((with_reducible apply z02 (id:=5) 6 [(0,true),(1,true),(2,true),(3,true),(4,true),(5,true)] [(6,false)] []);kernel_rfl;(exact atks);kernel_rfl;intro r' hl')|((with_reducible apply z02 (id:=7) 12 [(0,true),(1,true),(2,true),(3,true),(4,true),(5,true),(6,true),(7,true),(8,true),(9,true),(10,true),(11,true)] [(12,false)] []);kernel_rfl;(exact atks);kernel_rfl;intro r' hl')|((with_reducible apply z02 (id:=9) 13 [(0,true),(1,true),(2,true),(3,true),(4,true),(5,true),(6,true),(7,true),(8,true),(9,true),(10,true),(11,true),(12,true)] [(13,false)] []);kernel_rfl;(exact atks);kernel_rfl;intro r' hl'))|(rw [hp])|(refine acl Tryz.func97 ?_;refine acr (z3g r bw wv W 0 (by omega) (by omega)) ?_;rintro v' H' ⟨w1,rfl⟩;refine apl ?_)|(refine acl Tryz.func97 ?_;refine acr (z3g r bw w1 (W++septs (0:Int).toNat) p.pos (by omega) (by omega)) ?_;rintro v' H' ⟨w2,rfl⟩;refine apl ?_)|exact xf|refine aw0 ?_|(refine ap2 ?_ ?_<;>try intro h)|refine aw1 ?_|(refine abx ?_;intro bb)|(refine abz ?_;intro bz)|(refine ahv ?_;intro v' hv')|(refine aac ?_;intro ac cc)|refine aw2 ?_|(refine ap4 ?_ ?_<;>try intro h)|apply True.intro)
     exact ⟨_,by omega,k+1,bw,w2,(W++septs (0:Int).toNat)++septs p.pos.toNat,p,rfl,by omega,by rw [hW];simp only [List.append_assoc];rfl,hc.2,by omega,by omega,hnx,⟨_,atks⟩,asls⟩
   · have ha1:=ha.2 hk0
     have hk1:((k:Int) - 1).toNat=k - 1:=by omega
     rw [hp] at hW hc hf
     have hW1:(W++septs (p.doc - a.doc).toNat).length<=12000010:=by
      have:=z09 (n:=(p.doc - a.doc).toNat) (by unfold maxNum;omega)
      rw [List.length_append];omega
     by_cases hd:p.doc=a.doc
     · rw [if_pos hd,show p.pos - (a.pos+1)=p.pos - a.pos - 1 by omega] at hW
       repeat' (first|(first|((with_reducible apply z02 (id:=5) 6 [(0,true),(1,true),(2,true),(3,true),(4,true),(5,true)] [(6,false)] []);kernel_rfl;(exact atks);kernel_rfl;intro r' hl')|((with_reducible apply z02 (id:=7) 12 [(0,true),(1,true),(2,true),(3,true),(4,true),(5,true),(6,true),(7,true),(8,true),(9,true),(10,true),(11,true)] [(12,false)] []);kernel_rfl;(exact atks);kernel_rfl;intro r' hl')|((with_reducible apply z02 (id:=9) 13 [(0,true),(1,true),(2,true),(3,true),(4,true),(5,true),(6,true),(7,true),(8,true),(9,true),(10,true),(11,true),(12,true)] [(13,false)] []);kernel_rfl;(exact atks);kernel_rfl;intro r' hl'))|(rw [hp])|(rw [hk1])|(rw [ha1])|(refine acl Tryz.func97 ?_;refine acr (z3g r bw wv W (p.doc - a.doc) (by omega) (by omega)) ?_;rintro v' H' ⟨w1,rfl⟩;refine apl ?_)|(refine acl Tryz.func97 ?_;refine acr (z3g r bw w1 (W++septs ((p.doc - a.doc)).toNat) (p.pos - a.pos - 1) (by omega) (by omega)) ?_;rintro v' H' ⟨w2,rfl⟩;refine apl ?_)|exact xf|refine aw0 ?_|(refine ap2 ?_ ?_<;>try intro h)|refine aw1 ?_|(refine abx ?_;intro bb)|(refine abz ?_;intro bz)|(refine ahv ?_;intro v' hv')|(refine aac ?_;intro ac cc)|refine aw2 ?_|(refine ap4 ?_ ?_<;>try intro h)|apply True.intro)
       exact ⟨_,by omega,k+1,bw,w2,(W++septs (p.doc - a.doc).toNat)++septs (p.pos - a.pos - 1).toNat,p,rfl,by omega,by rw [hW];simp only [List.append_assoc],hc.2,by omega,by omega,hnx,⟨_,atks⟩,asls⟩
     · rw [if_neg hd] at hW
       repeat' (first|(first|((with_reducible apply z02 (id:=5) 6 [(0,true),(1,true),(2,true),(3,true),(4,true),(5,true)] [(6,false)] []);kernel_rfl;(exact atks);kernel_rfl;intro r' hl')|((with_reducible apply z02 (id:=7) 12 [(0,true),(1,true),(2,true),(3,true),(4,true),(5,true),(6,true),(7,true),(8,true),(9,true),(10,true),(11,true)] [(12,false)] []);kernel_rfl;(exact atks);kernel_rfl;intro r' hl')|((with_reducible apply z02 (id:=9) 13 [(0,true),(1,true),(2,true),(3,true),(4,true),(5,true),(6,true),(7,true),(8,true),(9,true),(10,true),(11,true),(12,true)] [(13,false)] []);kernel_rfl;(exact atks);kernel_rfl;intro r' hl'))|(rw [hp])|(rw [hk1])|(rw [ha1])|(refine acl Tryz.func97 ?_;refine acr (z3g r bw wv W (p.doc - a.doc) (by omega) (by omega)) ?_;rintro v' H' ⟨w1,rfl⟩;refine apl ?_)|(refine acl Tryz.func97 ?_;refine acr (z3g r bw w1 (W++septs ((p.doc - a.doc)).toNat) p.pos (by omega) (by omega)) ?_;rintro v' H' ⟨w2,rfl⟩;refine apl ?_)|exact xf|refine aw0 ?_|(refine ap2 ?_ ?_<;>try intro h)|refine aw1 ?_|(refine abx ?_;intro bb)|(refine abz ?_;intro bz)|(refine ahv ?_;intro v' hv')|(refine aac ?_;intro ac cc)|refine aw2 ?_|(refine ap4 ?_ ?_<;>try intro h)|apply True.intro)
       exact ⟨_,by omega,k+1,bw,w2,(W++septs (p.doc - a.doc).toNat)++septs p.pos.toNat,p,rfl,by omega,by rw [hW];simp only [List.append_assoc],hc.2,by omega,by omega,hnx,⟨_,atks⟩,asls⟩
 · obtain rfl:k=ls.length:=by omega
   rw [List.drop_length,blockB,List.append_nil] at hW
   refine zlq (E:=5) (sz:=1) (v:=wv) (n:=W.length) (xs:=u8s W) atk ?_
   rintro ⟨wa,wc,rfl⟩
   repeat' (first|exact xf|refine aw0 ?_|(refine ap2 ?_ ?_<;>try intro h)|refine aw1 ?_|(refine abx ?_;intro bb)|(refine abz ?_;intro bz)|(refine ahv ?_;intro v' hv')|(refine aac ?_;intro ac cc)|refine aw2 ?_|(refine ap4 ?_ ?_<;>try intro h)|apply True.intro)
   rw [hW] at HR
   ((with_reducible apply z00);exact res_1 rfl rfl)
   exact HR.out _ _ _ [U8R (.slice wa W.length wc) W] atks ⟨_,_,rfl,rfl⟩
theorem z7n {l:List PlaceV} {q:Nat} (h:64*q<l.length):(chunks l).getD q default=(l.drop (64*q)).take 64:=by
 rw [z50 _ l (Nat.le_refl _),List.getD_eq_getElem?_getD,List.getElem?_map,List.getElem?_range (by omega)]
 rfl
theorem zea {l:List PlaceV} {q:Nat} (h:64*q<l.length):((chunks l).getD q default).headD default=l.getD (64*q) default:=by
 rw [z7n h,List.headD_eq_head?_getD,List.head?_take,List.head?_drop,List.getD_eq_getElem?_getD]
 simp
theorem z9m {l:List PlaceV} {q:Nat} (h:64*q<l.length):(chunks l).getD q default≠[]:=by
 rw [z7n h]
 intro e
 have:=congrArg List.length e
 rw [List.length_take,List.length_drop,List.length_nil] at this
 omega
theorem z65 {l:List PlaceV} {q:Nat} (h:64*q<l.length):(chunks l).take (q+1)=(chunks l).take q++[(chunks l).getD q default]:=by
 have hq:q<(chunks l).length:=by rw [z42];omega
 rw [List.take_succ_eq_append_getElem hq,List.getD_eq_getElem?_getD,List.getElem?_eq_getElem hq];rfl
theorem zob {l:List PlaceV} {q:Nat} (h:64*q<l.length):lastD ((chunks l).take (q+1))=(l.getD (64*q) default).doc:=by
 rw [z65 h,z5q,← zea h]
 have hn:=z9m h
 cases hc:(chunks l).getD q default with
 | nil=>exact absurd hc hn
 | cons=>rfl
def lastQ (l:List PlaceV) (q:Nat):Int:=if q=0 then 0 else (l.getD (64*(q - 1)) default).doc
theorem zsr {a0:PlaceV} {l:List PlaceV} {q:Nat} (hc:chainP a0 l=true) (h:64*q<l.length):headsB 0 ((chunks l).take (q+1))=headsB 0 ((chunks l).take q)++(septs ((l.getD (64*q) default).doc - lastQ l q).toNat++septs (block1 ((chunks l).getD q default)).length):=by
 have hall:=(z20 _ l a0 (Nat.le_refl _) hc).2
 rw [z65 h,z67 _ _ _ (fun c hc=>(hall c (List.mem_of_mem_take hc)).1) (z9m h),zea h]
 congr 4
 unfold lastQ
 by_cases h0:q=0
 · subst h0;simp
 · rw [if_neg h0]
   obtain ⟨p,rfl⟩ : ∃ p,q=p+1:=⟨q - 1,by omega⟩
   rw [if_neg (by
    intro e
    have e2:=congrArg List.length e
    rw [List.length_take,z42,List.length_nil] at e2
    omega),zob (by omega),Nat.add_sub_cancel]
theorem zoc {a0:PlaceV} {l:List PlaceV} {q:Nat} (hc:chainP a0 l=true) (h:64*q<l.length):lastQ l q<=(l.getD (64*q) default).doc/\(l.getD (64*q) default).doc<4000/\0<=lastQ l q:=by
 have hm:l.getD (64*q) default∈l:=z0g h
 have h1:=z2g l a0 hc _ hm
 unfold lastQ
 by_cases h0:q=0
 · rw [if_pos h0];omega
 · rw [if_neg h0]
   have h2:=z2g l a0 hc _ (z0g (show 64*(q - 1)<l.length by omega))
   have h3:=zb3 hc (j:=64*(q - 1)) (k:=64*q) (by omega) h
   omega
theorem zeb (r:Hp) (x:PostV) (a0:PlaceV) (hx:Els r 2 encPl x.val x.pl) (hc:chainP a0 x.pl=true) (hne:x.pl≠[]) (hl:x.pl.length<=10000) (hg:x.gram.length<=1000000):Tri Tryz.prog r 99 [.agg (encPo x).toArray] [] fun w H => ∃ a c,w = .slice a (postB (unP x)).length c/\H=[U8M w (postB (unP x))]:=by
 obtain ⟨g,v,l⟩:=x
 dsimp only at hx hc hl hg hne ⊢
 have hl0:=List.length_pos_iff.2 hne
 have hbl:=z6u hc
 obtain ⟨cs,hcs⟩ : ∃ cs,chunks l=cs:=⟨_,rfl⟩
 have hcl:cs.length=(l.length+63) / 64:=by rw [← hcs];exact z42
 have hpB:postB (unP ⟨g,v,l⟩)=g++((septs l.length++headsB 0 cs)++cs.flatMap block1):=by rw [← hcs];rfl
 rw [hpB]
 rw [hcs] at hbl
 show Tri Tryz.prog r 99 [.agg [.string (bs g),v].toArray] [] _
 refine Tri.free2 fun R HR=>?_
 refine ae Tryz.func99 Tryz.ntmps99 ?_
 refine z0f (A:=U8R (.slice none 0 0) []) (RowC.nil _ _) ?_
 repeat' (first|((with_reducible apply zsb);kernel_rfl;exact ty_el;kernel_rfl;rfl;(unfold maxLen;omega);intro ac cc;(refine apk ?_))|(refine acl Tryz.func97 ?_;refine acr (z7t r _ (.slice ac g.length cc) g l.length (by unfold maxNum;omega) (by omega)) ?_;rintro v' H' ⟨w1,rfl⟩;refine apl ?_)|refine aw0 ?_|(refine ap2 ?_ ?_<;>try intro h)|refine aw1 ?_|(refine abx ?_;intro bb)|(refine abz ?_;intro bz)|(refine ahv ?_;intro v' hv')|(refine aac ?_;intro ac cc)|refine aw2 ?_|(refine ap4 ?_ ?_<;>try intro h)|apply True.intro)
 revert bb
 revert bb
 intro b0 bw
 refine z04 (fun gm t H' => ∃ (q:Nat) (wv:Value) (aa:Option Addr) (ca:Nat) (W A:List UInt8),gm=cs.length+1 - q/\(q<=cs.length)/\(W=g++(septs l.length++headsB 0 (cs.take q)))/\(A=(cs.take q).flatMap block1)/\(∃ G,Takes [pt b0 (.cells [.string (bs g),v].toArray 145 (0,0)),pt bw (rwr wv false),U8M wv W,U8R (.slice aa A.length ca) A] H' G)/\Sls t 65 [(1,.pointer (some ⟨b0,0,none⟩)),(3,.pointer (some ⟨bw,0,none⟩)),(4,.slice aa A.length ca),(5,.int .i64 (lastQ l q)),(6,.int .i64 (64*(q:Int)))]) _ ⟨0,w1,none,0,g++septs l.length,[],rfl,Nat.zero_le _,by simp [headsB],rfl,⟨_,by (exact atks)⟩,asls⟩ ?_
 rintro gm t H' ⟨q,wv,aa,ca,W,A,rfl,hq,hW,hA,⟨G,hp⟩,hs'⟩
 revert t;refine z06 ?_;iterate 60 intro uu'
 refine z01 hp ?_;clear hp
 have hWl:W.length<=2000000:=by
  have h1:=z40 (cs.take q) 0 (fun c hc=>hbl c (List.mem_of_mem_take hc)) (Int.le_refl _)
  have h2:=z09 (n:=l.length) (by unfold maxNum;omega)
  rw [List.length_take] at h1
  rw [hW,List.length_append,List.length_append];omega
 have hAl:A.length<=1000000:=by
  have h1:=zco (cs.take q) (fun c hc=>(hbl c (List.mem_of_mem_take hc)).2.2)
  rw [List.length_take] at h1
  rw [hA];omega
 by_cases hlt:q<cs.length
 · have h64:64*q<l.length:=by omega
   have hmem:cs.getD q default∈cs:=z0g hlt
   have hcb:=(hbl _ hmem).2.2
   have hnx1:=zsr hc h64
   have hcg:cs.getD q default=(l.drop (64*q)).take 64:=by rw [← hcs];exact z7n h64
   have hcn:cs.getD q default≠[]:=by rw [← hcs];exact z9m h64
   have hsn:cs.take (q+1)=cs.take q++[cs.getD q default]:=by rw [← hcs];exact z65 h64
   rw [hcs] at hnx1
   have hlq:=zoc hc h64
   have hln:lastQ l (q+1)=(l.getD (64*q) default).doc:=by unfold lastQ;rw [if_neg (by omega),Nat.add_sub_cancel]
   have he1:(64*(q:Int)).toNat=64*q:=by omega
   have hck:List.take ((min (64*(q:Int)+64) (l.length:Int)).toNat - (64*(q:Int)).toNat) (List.drop (64*(q:Int)).toNat l)=cs.getD q default:=by
    rw [hcg,he1,show (min (64*(q:Int)+64) (l.length:Int)).toNat - 64*q=min 64 (l.drop (64*q)).length by rw [List.length_drop];omega,← List.take_take,List.take_length]
   have hch : ∃ a,chainP a (cs.getD q default)=true:=((z20 _ l a0 (Nat.le_refl _) hc).2 _ (by rw [hcs];exact hmem)).2
   obtain ⟨ca0,hch⟩:=hch
   have hbk:=fun v' (h:Els r 2 encPl v' (List.take ((min (64*(q:Int)+64) (l.length:Int)).toNat - (64*(q:Int)).toNat) (List.drop (64*(q:Int)).toNat l)))=>ze9 r v' (cs.getD q default) ca0 (by rw [hck] at h;exact h) (List.length_pos_iff.2 hcn) hch (by rw [hcg,List.length_take];omega)
   have hAn:A++block1 (cs.getD q default)=(cs.take (q+1)).flatMap block1:=by rw [hsn,List.flatMap_append,hA];simp
   generalize cs.getD q default=c at hcb hnx1 hbk hAn
   generalize block1 c=B at hcb hnx1 hbk hAn
   have hW2:(W++septs ((l.getD (64*q) default).doc - lastQ l q).toNat).length<=2000006:=by
    have:=z09 (n:=((l.getD (64*q) default).doc - lastQ l q).toNat) (by unfold maxNum;omega)
    rw [List.length_append];omega
   have hWn:(W++septs ((l.getD (64*q) default).doc - lastQ l q).toNat)++septs B.length=g++(septs l.length++headsB 0 (cs.take (q+1))):=by rw [hnx1,hW];simp only [List.append_assoc]
   have hwr:IntKind.i64.wrap ((l.getD (64*q) default).doc - lastQ l q)=(l.getD (64*q) default).doc - lastQ l q:=z3b (by apply z86<;>omega)
   repeat' (first|(rw [he1])|(rw [hwr])|(refine acl Tryz.func159 ?_;refine acr (hbk _ hv') ?_;rintro v' H' ⟨a1,c1,rfl,rfl⟩;refine apl ?_)|(refine acl Tryz.func97 ?_;refine acr (zgo r bw wv W ((l.getD (64*q) default).doc - lastQ l q) (by omega) (by omega)) ?_;rintro v' H' ⟨w2,rfl⟩;refine apl ?_)|(refine acl Tryz.func97 ?_;refine acr (z7t r bw w2 (W++septs ((l.getD (64*q) default).doc - lastQ l q).toNat) B.length (by unfold maxNum;omega) (by omega)) ?_;rintro v' H' ⟨w3,rfl⟩;refine apl ?_)|((with_reducible apply z05 (A:=U8R (.slice a1 B.length c1) B));(exact atk);intro rx gx hrx hgx hAx;(with_reducible apply z0v (news:=u8s B));exact ty_el;exact z03;rfl;rfl;rfl;rfl;exact (hAx.sl hgx);(exact atk);exact z1y _;(unfold maxLen;omega);(omega);intro a' c';(refine apk ?_))|exact xf|refine aw0 ?_|(refine ap2 ?_ ?_<;>try intro h)|refine aw1 ?_|(refine abx ?_;intro bb)|(refine abz ?_;intro bz)|(refine ahv ?_;intro v' hv')|(refine aac ?_;intro ac cc)|refine aw2 ?_|(refine ap4 ?_ ?_<;>try intro h)|apply True.intro)
   have hU:U8R (.slice a' (A++B).length c') (A++B)=RowC 5 1 (.slice a' (A.length+B.length) c') (A.length+B.length) (u8s A++u8s B):=zie _ _ _ _
   have hlen:(A++B).length=A.length+B.length:=List.length_append
   rw [← hU,← hlen]
   exact ⟨_,by omega,q+1,w3,a',c',(W++septs ((l.getD (64*q) default).doc - lastQ l q).toNat)++septs B.length,A++B,rfl,by omega,hWn,hAn,⟨_,atks⟩,asls⟩
 · obtain rfl:q=cs.length:=by omega
   rw [List.take_length] at hW hA
   have hA0:0<A.length:=by
    have h1:=zan cs
    rw [← hcs,(z20 _ l a0 (Nat.le_refl _) hc).1,hcs,← hA] at h1
    omega
   rw [← hA,show g++((septs l.length++headsB 0 cs)++A)=W++A by rw [hW];simp only [List.append_assoc]] at HR
   refine zoh (E:=5) (sz:=1) (v:=wv) (n:=W.length) (xs:=u8s W) atk ?_
   rintro ⟨wa,wc,rfl⟩
   repeat' (first|((with_reducible apply z05 (A:=U8R (.slice aa A.length ca) A));(exact atk);intro rx gx hrx hgx hAx;(with_reducible apply zhv (news:=u8s A));exact ty_el;exact z03;rfl;rfl;rfl;rfl;exact (hAx.sl hgx);(exact atk);exact z1y _;exact hA0;(unfold maxLen;omega);(omega);intro a' c';(refine apk ?_))|exact xf|refine aw0 ?_|(refine ap2 ?_ ?_<;>try intro h)|refine aw1 ?_|(refine abx ?_;intro bb)|(refine abz ?_;intro bz)|(refine ahv ?_;intro v' hv')|(refine aac ?_;intro ac cc)|refine aw2 ?_|(refine ap4 ?_ ?_<;>try intro h)|apply True.intro)
   ((with_reducible apply z00);exact res_1 rfl rfl)
   exact HR.out _ _ _ [RowM 5 1 _ _ _] atks ⟨a',c',by rw [List.length_append],by rw [← zr5]⟩
theorem zju (r:Hp) (v:Value) (xs:List PostV) (hv:Posts r v xs) (hb : ∀ x∈xs,x.pl.length<=10000) (hn:xs.length<=10000):Tri Tryz.prog r 42 [v] [] fun w H => ∃ a c,w = .tuple #[.slice a (putE (xs.map unP)).1.length c,.int .i64 (putE (xs.map unP)).2]/\H=[U8R (.slice a (putE (xs.map unP)).1.length c) (putE (xs.map unP)).1]:=by
 refine Tri.free2 fun R HR=>?_
 have hrt:=ze2 r v xs hv
 have hve:=hv.1
 cases hok:postsOk [] (xs.map unP)
 · rw [hok] at hrt
   rw [show putE (xs.map unP)=([],2) by unfold putE;rw [hok];rfl] at HR
   refine ae Tryz.func42 Tryz.ntmps42 ?_
   refine z0f (A:=U8R (.slice none 0 0) []) (RowC.nil _ _) ?_
   repeat' (first|(refine acl Tryz.func98 ?_;refine acr (hrt) ?_;rintro v' H' ⟨rfl,rfl⟩;refine apl ?_)|exact xf|refine aw0 ?_|(refine ap2 ?_ ?_<;>try intro h)|refine aw1 ?_|(refine abx ?_;intro bb)|(refine abz ?_;intro bz)|(refine ahv ?_;intro v' hv')|(refine aac ?_;intro ac cc)|refine aw2 ?_|(refine ap4 ?_ ?_<;>try intro h)|apply True.intro)
   ((with_reducible apply z00);exact res_2 rfl rfl rfl)
   exact HR.out _ _ _ [_] atks ⟨none,0,rfl,rfl⟩
 · rw [hok] at hrt
   rw [show putE (xs.map unP)=(putB (xs.map unP),0) by unfold putE;rw [hok];rfl] at HR
   have hpo : ∀ x∈xs,postOk (unP x)=true:=fun x hx=>z1w hok _ (List.mem_map_of_mem hx)
   have hpl : ∀ x∈xs,(postB (unP x)).length<=200000:=fun x hx=>zig (hpo x hx) (hb x hx)
   clear hok
   refine ae Tryz.func42 Tryz.ntmps42 ?_
   refine z0f (A:=U8R (.slice none 0 0) []) (RowC.nil _ _) ?_
   repeat' (first|(refine acl Tryz.func98 ?_;refine acr (hrt) ?_;rintro v' H' ⟨rfl,rfl⟩;refine apl ?_)|(refine acl Tryz.func97 ?_;refine acr (z2r r bb (.slice none 0 0) [] xs.length (by unfold maxNum;omega) (by simp)) ?_;rintro v' H' ⟨w',rfl⟩;refine apl ?_)|exact xf|refine aw0 ?_|(refine ap2 ?_ ?_<;>try intro h)|refine aw1 ?_|(refine abx ?_;intro bb)|(refine abz ?_;intro bz)|(refine ahv ?_;intro v' hv')|(refine aac ?_;intro ac cc)|refine aw2 ?_|(refine ap4 ?_ ?_<;>try intro h)|apply True.intro)
   revert bb;intro bw
   refine z04 (fun gm t H' => ∃ (k:Nat) (wv:Value),gm=xs.length+1 - k/\(k<=xs.length)/\(∃ G,Takes [pt bw (rwr wv false),U8R wv (septs xs.length++((xs.take k).map unP).flatMap fun x=>texts (postB x))] H' G)/\Sls t 32 [(0,v),(4,.pointer (some ⟨bw,0,none⟩)),(5,.int .i64 k)]) _ ⟨0,w',rfl,Nat.zero_le _,⟨_,by simp only [List.take_zero,List.map_nil,List.flatMap_nil,List.append_nil];(exact atks)⟩,asls⟩ ?_
   rintro gm t H' ⟨k,wv,rfl,hk,⟨G,hp⟩,hs'⟩
   revert t;refine z06 ?_;iterate 29 intro uu'
   refine z01 hp ?_;clear hp
   by_cases hlt:k<xs.length
   · have hx:=hv.2 _ (z0g hlt)
     have hm:=z0g hlt
     have hch:=(z19 (hpo _ hm)).1
     have hbl:=hb _ hm
     have hg3:(xs.getD k default).gram.length=3:=(z19 (hpo _ hm)).2.1
     have hpst:=zeb r (xs.getD k default) ⟨-1,0⟩ hx hch (z19 (hpo _ hm)).2.2 (by omega) (by omega)
     have hpl1:=hpl _ hm
     have htk:xs.take (k+1)=xs.take k++[xs.getD k default]:=by
      rw [List.take_succ_eq_append_getElem hlt,List.getD_eq_getElem?_getD,List.getElem?_eq_getElem hlt];rfl
     have hlen:(septs xs.length++((xs.take k).map unP).flatMap fun x=>texts (postB x)).length<=6+200006*k:=by
      have h1:=zcp ((xs.take k).map unP) (fun x hx=>by
       obtain ⟨z,hz,rfl⟩:=List.mem_map.1 hx
       exact hpl z (List.mem_of_mem_take hz))
      rw [List.length_map,List.length_take] at h1
      have h2:=z09 (n:=xs.length) (by unfold maxNum;omega)
      rw [List.length_append];omega
     have hnx:(septs xs.length++((xs.take (k+1)).map unP).flatMap fun x=>texts (postB x))=(septs xs.length++((xs.take k).map unP).flatMap fun x=>texts (postB x))++texts (postB (unP (xs.getD k default))):=by
      rw [htk,List.map_append,List.flatMap_append,List.append_assoc];simp
     generalize (septs xs.length++((xs.take k).map unP).flatMap fun x=>texts (postB x))=W at *
     generalize postB (unP (xs.getD k default))=B at *
     repeat' (first|(refine acl Tryz.func99 ?_;refine acr (hpst) ?_;rintro v' H' ⟨a,c,rfl,rfl⟩;refine apl ?_)|((with_reducible apply z05 (A:=U8M (.slice a B.length c) B));(exact atk);intro r1 g1 hr1 hg1 hA1;(refine acl Tryz.func65 ?_;refine acr (z7s r1 bw wv W _ B (hA1.sl hg1) (by omega) (by omega)) ?_;rintro v' H' ⟨w2,rfl⟩;refine apl ?_))|exact xf|refine aw0 ?_|(refine ap2 ?_ ?_<;>try intro h)|refine aw1 ?_|(refine abx ?_;intro bb)|(refine abz ?_;intro bz)|(refine ahv ?_;intro v' hv')|(refine aac ?_;intro ac cc)|refine aw2 ?_|(refine ap4 ?_ ?_<;>try intro h)|apply True.intro)
     exact ⟨_,by omega,k+1,w2,rfl,by omega,⟨_,by rw [hnx];(exact atks)⟩,asls⟩
   · obtain rfl:k=xs.length:=by omega
     rw [List.take_length]
     have hB:putB (xs.map unP)=septs xs.length++(xs.map unP).flatMap fun x=>texts (postB x):=by unfold putB;rw [List.length_map]
     rw [hB] at HR
     generalize (septs xs.length++(xs.map unP).flatMap fun x=>texts (postB x))=W at *
     refine zlq (E:=5) (sz:=1) (v:=wv) (n:=W.length) (xs:=u8s W) atk ?_
     rintro ⟨wa,wc,rfl⟩
     repeat' (first|exact xf|refine aw0 ?_|(refine ap2 ?_ ?_<;>try intro h)|refine aw1 ?_|(refine abx ?_;intro bb)|(refine abz ?_;intro bz)|(refine ahv ?_;intro v' hv')|(refine aac ?_;intro ac cc)|refine aw2 ?_|(refine ap4 ?_ ?_<;>try intro h)|apply True.intro)
     ((with_reducible apply z00);exact res_2 rfl rfl rfl)
     exact HR.out _ _ _ [U8R _ _] atks ⟨_,_,rfl,rfl⟩
end Go.Proofs.YtohpeoakdgckfaaGreat
