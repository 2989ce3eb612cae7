/- text.Lines, mudlarkref05.Lines, the writers' Rising: their contracts. -/
import Derived.Test.YtohpeoakdgckfaaGreatShb
import Derived.Test.YtohpeoakdgckfaaGreatKj
import Derived.Test.YtohpeoakdgckfaaGreatQf
set_option maxHeartbeats 2000000
set_option maxRecDepth 10000
namespace Go.Proofs.YtohpeoakdgckfaaGreat
open Go.RowKit Sx
def encNa (n:Nat):List Value:=[.int .i64 n]
abbrev NatR (v:Value) (l:List Nat):Ch:=RowC 3 1 v l.length (l.flatMap encNa)
theorem zlg (r:Hp) (v:Value) (b:List UInt8) (hv:U8S r v b) (hl:b.length<=1000000000) (b3 b2:Nat):Seq Tryz.prog r 143 [.pointer (some ⟨b3,0,none⟩),.pointer (some ⟨b2,0,none⟩)] encNa (feedsF 0 b) [pt b3 (.cells [.int .i64 0].toArray 3 (0,0)),pt b2 (.cells [v].toArray 26 (0,0))] []:=by
 intro k J Jx hY
 refine Tri.free2 fun R HR=>?_
 refine ae Tryz.func143 Tryz.ntmps143 ?_
 repeat' (first|refine aw0m ?_|(refine ap2 ?_ ?_<;>try intro h)|refine aw1m ?_|(refine abx ?_;intro bb)|(refine abz ?_;intro bz)|(refine ahv ?_;intro v' hv')|(refine aac ?_;intro ac cc)|refine aw2 ?_|(refine ap4 ?_ ?_<;>try intro h)|apply True.intro)
 refine z04 (fun gm t H' => ∃ q:Nat,gm=b.length+1 - q/\(q<=b.length)/\(∃ G,Takes [J (feedsF 0 (b.take q)).length,pt b3 (.cells [.int .i64 0].toArray 3 (0,0)),pt b2 (.cells [v].toArray 26 (0,0))] H' G)/\Sls t 23 [(0,.func (.yield k) #[] #[]),(2,.pointer (some ⟨b2,0,none⟩)),(4,.int .i64 q)]) _ ⟨0,rfl,Nat.zero_le _,⟨_,atks⟩,asls⟩ ?_
 rintro gm t H' ⟨q,rfl,hq,⟨G,hp⟩,hs'⟩
 revert t;refine z06 ?_;iterate 20 intro uu'
 refine z01 hp ?_;clear hp
 by_cases hlt:q<b.length
 · have ht:=z6b hlt
   by_cases h10:b.getD q 0=10
   · obtain ⟨hi,he⟩:=zm3 hlt h10
     have hy:=hY _ hi
     rw [he,show encNa q=[.int .i64 q] from rfl] at hy
     rw [if_pos h10] at ht
     have h10':((b.getD q 0).toNat:Int)=10:=by rw [h10];rfl
     clear h10 hY
     repeat' (first|((with_reducible apply z2o);rfl;exact (hy);rfl;(exact atk);all_goals (refine apk ?_))|exact xf|refine aw0 ?_|(refine ap2 ?_ ?_<;>try intro h)|refine aw1 ?_|(refine abx ?_;intro bb)|(refine abz ?_;intro bz)|(refine ahv ?_;intro v' hv')|(refine aac ?_;intro ac cc)|refine aw2 ?_|(refine ap4 ?_ ?_<;>try intro h)|apply True.intro)
     · exact ⟨_,by omega,q+1,rfl,by omega,⟨_,by rw [ht,List.length_append];exact atks⟩,asls⟩
     · ((with_reducible apply z1k);exact res_0 rfl)
       exact HR.out _ _ _ [Jx _] atks (.inr ⟨_,[],hi,rfl⟩)
   · rw [if_neg h10,List.append_nil] at ht
     have h10':((b.getD q 0).toNat:Int)≠10:=fun e=>h10 (UInt8.toNat_inj.1 (by simpa using (by omega:(b.getD q 0).toNat=10)))
     clear h10
     repeat' (first|exact xf|refine aw0 ?_|(refine ap2 ?_ ?_<;>try intro h)|refine aw1 ?_|(refine abx ?_;intro bb)|(refine abz ?_;intro bz)|(refine ahv ?_;intro v' hv')|(refine aac ?_;intro ac cc)|refine aw2 ?_|(refine ap4 ?_ ?_<;>try intro h)|apply True.intro)
     exact ⟨_,by omega,q+1,rfl,by omega,⟨_,by rw [ht];exact atks⟩,asls⟩
 · obtain rfl:q=b.length:=by omega
   rw [List.take_length]
   repeat' (first|exact xf|refine aw0 ?_|(refine ap2 ?_ ?_<;>try intro h)|refine aw1 ?_|(refine abx ?_;intro bb)|(refine abz ?_;intro bz)|(refine ahv ?_;intro v' hv')|(refine aac ?_;intro ac cc)|refine aw2 ?_|(refine ap4 ?_ ?_<;>try intro h)|apply True.intro)
   ((with_reducible apply z1k);exact res_0 rfl)
   exact HR.out _ _ _ [J _] atks (.inl rfl)
theorem zjq (r:Hp) (a:Option Addr) (n c:Nat):Tri Tryz.prog r 83 [.slice a n c,.int .i64 0] [] fun w H => ∃ b3 b2,w = .func (.func 143) #[] #[.pointer (some ⟨b3,0,none⟩),.pointer (some ⟨b2,0,none⟩)]/\H=[pt b3 (.cells [.int .i64 0].toArray 3 (0,0)),pt b2 (.cells [.slice a n c].toArray 26 (0,0))]:=by
 refine Tri.free2 fun R HR=>?_
 refine ae Tryz.func83 Tryz.ntmps83 ?_
 repeat' (first|refine aw0m ?_|(refine ap2 ?_ ?_<;>try intro h)|refine aw1m ?_|(refine abx ?_;intro bb)|(refine abz ?_;intro bz)|(refine ahv ?_;intro v' hv')|(refine aac ?_;intro ac cc)|refine aw2 ?_|(refine ap4 ?_ ?_<;>try intro h)|apply True.intro)
 ((with_reducible apply z00);exact res_1 rfl rfl)
 exact HR.out _ _ _ [_,_] atks ⟨_,_,rfl,rfl⟩
theorem zic {b:Nat} (h:Hp) (e:all [pt b (.cells [.int .i64 (0:Int)].toArray 3 (0,0))] h):NatR (.slice (some ⟨b,0,none⟩) 1 1) [0] h :=
 RowC.of_pt (n:=1) (cap:=1) (sz:=1) (Nat.le_refl _) (by simp [maxLen]) rfl _ (z11.1 e)
theorem ze3 {a:Option Addr} {c n:Nat} {L:List Nat}:NatR (.slice a (L++[n]).length c) (L++[n])=RowC 3 1 (.slice a (L.length+1) c) (L.length+1) (L.flatMap encNa++[.int .i64 n]):=by
 unfold NatR
 rw [List.length_append,List.flatMap_append]
 rfl
theorem ze4 (r:Hp) (v:Value) (b:List UInt8) (hv:U8S r v b) (hl:b.length<=1000000000):Tri Tryz.prog r 33 [v] [] fun w H => ∃ a c,w = .slice a (linesOf b).length c/\H=[NatR w (linesOf b)]:=by
 refine Tri.free2 fun R HR=>?_
 have hfm:=zbd b 0
 obtain ⟨a0,c0,rfl⟩:=hv.form
 have hfs:=fun b3 b2=>zlg r (.slice a0 b.length c0) b hv hl b3 b2
 have hfl:=z5r b 0
 unfold linesOf at HR
 obtain ⟨F,hF⟩ : ∃ F,feedsF 0 b=F:=⟨_,rfl⟩
 rw [hF] at hfs hfm HR hfl
 refine ae Tryz.func33 Tryz.ntmps33 ?_
 repeat' (first|(refine acl Tryz.func83 ?_;refine acr (zjq r a0 b.length c0) ?_;rintro v' H' ⟨b3,b2,rfl,rfl⟩;refine apl ?_)|refine aw0 ?_|(refine ap2 ?_ ?_<;>try intro h)|refine aw1 ?_|(refine abx ?_;intro bb)|(refine abz ?_;intro bz)|(refine ahv ?_;intro v' hv')|(refine aac ?_;intro ac cc)|refine aw2 ?_|(refine ap4 ?_ ?_<;>try intro h)|apply True.intro)
 refine z0b (As:=[pt bz (.cells [.int .i64 (0:Int)].toArray 3 (0,0))]) (D:=NatR (.slice (some ⟨bz,0,none⟩) 1 1) [0]) atks zic ?_
 refine z5x rfl (z2h Tryz.func143 (by kernel_rfl) rfl) (hfs b3 b2) atks (fun _=>rfl)
  (fun j H => ∃ (a:Option Addr) (c:Nat) (G:List Ch),Takes [pt bb (.cells [.slice a (0::(F.take j).map (· + 1)).length c].toArray 60 (0,0)),NatR (.slice a (0::(F.take j).map (· + 1)).length c) (0::(F.take j).map (· + 1))] H G)
  (fun _ _ _=>False) ?_ ?_ ?_ (fun _ _ _ _ h=>h.elim)
 · exact ⟨some ⟨bz,0,none⟩,1,_,by (exact atks)⟩
 · rintro k i hi H ⟨a,c,G,hp⟩
   obtain ⟨n,hn⟩ : ∃ n,F[i]=n:=⟨_,rfl⟩
   have hnb:=hfm n (by rw [← hn];exact List.getElem_mem hi)
   rw [hn,show encNa n=[.int .i64 n] from rfl,pars1]
   refine z01 hp ?_
   clear hp
   have htk:0::(F.take (i+1)).map (· + 1)=(0::(F.take i).map (· + 1))++[n+1]:=by rw [List.take_succ_eq_append_getElem hi,hn];simp
   have hll:(0::(F.take i).map (· + 1)).length<=1000000001:=by simp only [List.length_cons,List.length_map,List.length_take];omega
   generalize 0::(F.take i).map (· + 1)=acc at hll htk ⊢
   (refine apk ?_)
   repeat' (first|(first|((with_reducible apply z0t);exact ty_el;exact z03;rfl;rfl;rfl;intro bz;(refine apk ?_))|((with_reducible apply z0y);exact ty_el;exact z03;rfl;rfl;rfl;intro bz;(refine apk ?_)))|(first|((with_reducible apply z0d);exact ty_el;exact z03;rfl;rfl;rfl;(exact atk);(exact atk);rfl;omega;intro a' c';(refine apk ?_))|((with_reducible apply z0m);exact ty_el;exact z03;rfl;rfl;rfl;rfl;(exact atk);(exact atk);rfl;rfl;omega;intro a' c';(refine apk ?_)))|refine aw0 ?_|(refine ap2 ?_ ?_<;>try intro h)|refine aw1 ?_|(refine abx ?_;intro bb)|(refine abz ?_;intro bz)|(refine ahv ?_;intro v' hv')|(refine aac ?_;intro ac cc)|refine aw2 ?_|(refine ap4 ?_ ?_<;>try intro h)|apply True.intro)
   refine ⟨a',c',?_⟩
   apply Exists.intro
   rw [htk,ze3,List.length_append,List.length_singleton]
   (exact atks)
 · rintro H ⟨a,c,G,hp⟩
   refine z01 hp ?_
   clear hp
   rw [List.take_length]
   repeat' (first|refine aw0m ?_|(refine ap2 ?_ ?_<;>try intro h)|refine aw1m ?_|(refine abx ?_;intro bb)|(refine abz ?_;intro bz)|(refine ahv ?_;intro v' hv')|(refine aac ?_;intro ac cc)|refine aw2 ?_|(refine ap4 ?_ ?_<;>try intro h)|apply True.intro)
   ((with_reducible apply z00);exact res_1 rfl rfl)
   exact HR.out _ _ _ [NatR _ _] atks ⟨_,_,rfl,rfl⟩
theorem zaz (r:Hp) (v:Value) (b:List UInt8) (hv:U8S r v b) (hl:b.length<=1000000000):Tri Tryz.prog r 46 [v] [] fun w H => ∃ a c,w = .slice a (linesOf b).length c/\H=[NatR w (linesOf b)]:=by
 refine Tri.free2 fun R HR=>?_
 unfold linesOf at HR
 refine ae Tryz.func46 Tryz.ntmps46 ?_
 repeat' (first|(first|((with_reducible apply z0t);exact ty_el;exact z03;rfl;rfl;rfl;intro bz;(refine apk ?_))|((with_reducible apply z0y);exact ty_el;exact z03;rfl;rfl;rfl;intro bz;(refine apk ?_)))|refine aw0 ?_|(refine ap2 ?_ ?_<;>try intro h)|refine aw1 ?_|(refine abx ?_;intro bb)|(refine abz ?_;intro bz)|(refine ahv ?_;intro v' hv')|(refine aac ?_;intro ac cc)|refine aw2 ?_|(refine ap4 ?_ ?_<;>try intro h)|apply True.intro)
 refine z0b (As:=[pt bz (.cells [.int .i64 (0:Int)].toArray 3 (0,0))]) (D:=NatR (.slice (some ⟨bz,0,none⟩) 1 1) [0]) atks zic ?_
 refine z04 (fun gm t H' => ∃ (k:Nat) (L:List Nat) (a:Option Addr) (c:Nat),gm=b.length+1 - k/\(k<=b.length)/\(L=0::(feedsF 0 (b.take k)).map (· + 1))/\(∃ G,Takes [NatR (.slice a L.length c) L] H' G)/\Sls t 23 [(0,v),(3,.slice a L.length c),(4,.int .i64 k)]) _ ⟨0,[0],_,_,rfl,Nat.zero_le _,rfl,⟨_,atks⟩,asls⟩ ?_
 rintro gm t H' ⟨k,L,a,c,rfl,hk,hL,⟨G,hp⟩,hs'⟩
 revert t;refine z06 ?_;iterate 20 intro uu'
 refine z01 hp ?_;clear hp
 have hll:L.length<=1000000001:=by
  have h:=z5r (b.take k) 0
  rw [List.length_take] at h
  rw [hL,List.length_cons,List.length_map]
  omega
 by_cases hlt:k<b.length
 · have ht:=z6b hlt
   by_cases h10:b.getD k 0=10
   · rw [if_pos h10] at ht
     have h10':((b.getD k 0).toNat:Int)=10:=by rw [h10];rfl
     have hL2:L++[k+1]=0::(feedsF 0 (b.take (k+1))).map (· + 1):=by rw [ht,hL];simp
     have hln:(L++[k+1]).length=L.length+1:=by simp
     clear hL h10
     repeat' (first|(first|((with_reducible apply z0t);exact ty_el;exact z03;rfl;rfl;rfl;intro bz;(refine apk ?_))|((with_reducible apply z0y);exact ty_el;exact z03;rfl;rfl;rfl;intro bz;(refine apk ?_)))|(first|((with_reducible apply z0d);exact ty_el;exact z03;rfl;rfl;rfl;(exact atk);(exact atk);rfl;omega;intro a' c';(refine apk ?_))|((with_reducible apply z0m);exact ty_el;exact z03;rfl;rfl;rfl;rfl;(exact atk);(exact atk);rfl;rfl;omega;intro a' c';(refine apk ?_)))|exact xf|refine aw0 ?_|(refine ap2 ?_ ?_<;>try intro h)|refine aw1 ?_|(refine abx ?_;intro bb)|(refine abz ?_;intro bz)|(refine ahv ?_;intro v' hv')|(refine aac ?_;intro ac cc)|refine aw2 ?_|(refine ap4 ?_ ?_<;>try intro h)|apply True.intro)
     exact ⟨_,by omega,k+1,L++[k+1],a',c',rfl,by omega,hL2,⟨_,by rw [ze3];exact atks⟩,asls⟩
   · rw [if_neg h10,List.append_nil] at ht
     have h10':((b.getD k 0).toNat:Int)≠10:=fun e=>h10 (UInt8.toNat_inj.1 (by simpa using (by omega:(b.getD k 0).toNat=10)))
     clear h10
     repeat' (first|exact xf|refine aw0 ?_|(refine ap2 ?_ ?_<;>try intro h)|refine aw1 ?_|(refine abx ?_;intro bb)|(refine abz ?_;intro bz)|(refine ahv ?_;intro v' hv')|(refine aac ?_;intro ac cc)|refine aw2 ?_|(refine ap4 ?_ ?_<;>try intro h)|apply True.intro)
     exact ⟨_,by omega,k+1,L,a,c,rfl,by omega,by rw [ht];exact hL,⟨_,atks⟩,asls⟩
 · obtain rfl:k=b.length:=by omega
   rw [List.take_length] at hL
   subst hL
   repeat' (first|exact xf|refine aw0 ?_|(refine ap2 ?_ ?_<;>try intro h)|refine aw1 ?_|(refine abx ?_;intro bb)|(refine abz ?_;intro bz)|(refine ahv ?_;intro v' hv')|(refine aac ?_;intro ac cc)|refine aw2 ?_|(refine ap4 ?_ ?_<;>try intro h)|apply True.intro)
   ((with_reducible apply z00);exact res_1 rfl rfl)
   exact HR.out _ _ _ [NatR _ _] atks ⟨_,_,rfl,rfl⟩
theorem zjr (r:Hp) (g:Nat) (v:Value) (l:List UInt8) (nv:Value) (xs:List Nat) (m:Nat) (hs:Els r 1 encNa nv xs) (hok:riseOk 0 m xs) (hm:m<=1000000000) (hn:xs.length<=1000000000) (hl:l.length<=1000000000):Tri Tryz.prog r 32 [.pointer (some ⟨g,0,none⟩),nv] [pt g (wri v false),U8R v l] fun _ H => ∃ v',H=[pt g (wri v' false),U8R v' (l++risingB xs)]:=by
 refine Tri.free2 fun R HR=>?_
 have h6:=z09 (n:=xs.length) (by unfold maxNum;omega)
 refine ae Tryz.func32 Tryz.ntmps32 ?_
 repeat' (first|(first|((with_reducible apply z0t);exact ty_el;exact z03;rfl;rfl;rfl;intro bz;(refine apk ?_))|((with_reducible apply z0y);exact ty_el;exact z03;rfl;rfl;rfl;intro bz;(refine apk ?_)))|((with_reducible apply z0k [(bz,.cells [.int .i64 (xs.length:Nat)].toArray 3 (0,0))]);(exact atks);intro r' hl';refine acl Tryz.func81 ?_;refine acr (z1i _ g v l (.slice (some ⟨bz,0,none⟩) 1 1) xs.length (Sl.lit (n:=1) (Lent.h1 hl') rfl (by simp [maxLen])) (by unfold maxNum;omega) (by omega)) ?_;rintro v' H' ⟨w1,rfl⟩;all_goals refine apm ?_)|((with_reducible refine z5g ?_ ?_);rfl;intro w ds K' hK;gi_big_op;(with_reducible refine hK _ ?_);clear hK K' ds w)|refine aw0 ?_|(refine ap2 ?_ ?_<;>try intro h)|refine aw1 ?_|(refine abx ?_;intro bb)|(refine abz ?_;intro bz)|(refine ahv ?_;intro v' hv')|(refine aac ?_;intro ac cc)|refine aw2 ?_|(refine ap4 ?_ ?_<;>try intro h)|apply True.intro)
 refine z04 (fun gm t H' => ∃ (k:Nat) (wv:Value),gm=xs.length+1 - k/\(k<=xs.length)/\(∃ G,Takes [pt g (wri wv false),U8R wv (l++(septs xs.length++riseG 0 (xs.take k)))] H' G)/\Sls t 51 [(0,.pointer (some ⟨g,0,none⟩)),(4,.int .i64 ((lastP 0 xs k:Nat) - 1:Int)),(14,nv),(15,.int .i64 xs.length),(16,.int .i64 k)]) _ ⟨0,w1,rfl,Nat.zero_le _,⟨_,by rw [List.take_zero,riseG,List.append_nil];exact atks⟩,asls⟩ ?_
 rintro gm t H' ⟨k,wv,rfl,hk,⟨G,hp⟩,hs'⟩
 revert t;refine z06 ?_;iterate 46 intro uu'
 refine z01 hp ?_;clear hp
 have hrl:=zcz (by unfold maxNum;omega:m<=maxNum) hok k
 by_cases hlt:k<xs.length
 · have hat:=z76 hok k hlt
   have htk:=z5s xs 0 k hlt
   have hla:lastP 0 xs (k+1)=xs.getD k 0+1:=rfl
   obtain ⟨n,hnx⟩ : ∃ n,xs.getD k default=n:=⟨_,rfl⟩
   rw [show xs.getD k 0=n from hnx] at hat htk hla
   generalize lastP 0 xs k=p at hat htk ⊢
   obtain ⟨W,hW⟩ : ∃ W,l++(septs xs.length++riseG 0 (xs.take k))=W:=⟨_,rfl⟩
   have hW2:l++(septs xs.length++riseG 0 (xs.take (k+1)))=W++septs (n - p):=by rw [htk,← hW];simp
   have hWl:W.length<=10000000000:=by rw [← hW,List.length_append,List.length_append];omega
   rw [hW]
   clear hW htk
   have hfit : ∀ r' bz,r' bz=some (.cells [.int .i64 (n:Nat)].toArray 3 (0,0))->Tri Tryz.prog r' 82 [.slice (some ⟨bz,0,none⟩) 1 1] [] fun w H=>w = .bool true/\H=[]:=fun r' bz h=>by
    have h1:=zj4 r' (.slice (some ⟨bz,0,none⟩) 1 1) 1 [(n:Int)] (Sl.lit (n:=1) h rfl (by simp [maxLen]))
    rwa [show [(n:Int)].any badNum=false by simp [badNum];omega] at h1
   repeat' (first|(rw [hnx])|(first|((with_reducible apply z0t);exact ty_el;exact z03;rfl;rfl;rfl;intro bz;(refine apk ?_))|((with_reducible apply z0y);exact ty_el;exact z03;rfl;rfl;rfl;intro bz;(refine apk ?_)))|((with_reducible apply z0k [(bz,.cells [.int .i64 (n:Nat)].toArray 3 (0,0))]);(exact atks);intro r' hl';refine acl Tryz.func82 ?_;refine acr (hfit _ bz (Lent.h1 hl')) ?_;rintro v' H' ⟨rfl,rfl⟩;all_goals refine apm ?_)|(rw [show decide ((n:Int)<=(p:Int) - 1)=false from decide_eq_false (by omega)])|(rw [show (n:Int) - ((p:Int) - 1) - 1=((n - p:Nat):Int) by omega])|((with_reducible apply z0k [(bz,.cells [.int .i64 (n - p:Nat)].toArray 3 (0,0))]);(exact atks);intro r' hl';refine acl Tryz.func81 ?_;refine acr (z1i _ g wv W (.slice (some ⟨bz,0,none⟩) 1 1) (n - p) (Sl.lit (n:=1) (Lent.h1 hl') rfl (by simp [maxLen])) (by unfold maxNum;omega) (by omega)) ?_;rintro v' H' ⟨w2,rfl⟩;all_goals refine apm ?_)|exact xf|refine aw0 ?_|(refine ap2 ?_ ?_<;>try intro h)|refine aw1 ?_|(refine abx ?_;intro bb)|(refine abz ?_;intro bz)|(refine ahv ?_;intro v' hv')|(refine aac ?_;intro ac cc)|refine aw2 ?_|(refine ap4 ?_ ?_<;>try intro h)|apply True.intro)
   exact ⟨_,by omega,k+1,w2,rfl,by omega,⟨_,by rw [hW2];exact atks⟩,asls⟩
 · obtain rfl:k=xs.length:=by omega
   rw [List.take_length]
   repeat' (first|exact xf|refine aw0 ?_|(refine ap2 ?_ ?_<;>try intro h)|refine aw1 ?_|(refine abx ?_;intro bb)|(refine abz ?_;intro bz)|(refine ahv ?_;intro v' hv')|(refine aac ?_;intro ac cc)|refine aw2 ?_|(refine ap4 ?_ ?_<;>try intro h)|apply True.intro)
   ((with_reducible apply z1k);exact res_0 rfl)
   exact HR.out _ _ _ [pt g _,U8R _ _] atks ⟨_,rfl⟩
theorem zgm (r:Hp) (g:Nat) (v:Value) (l:List UInt8) (nv:Value) (xs:List Nat) (m:Nat) (hs:Els r 1 encNa nv xs) (hok:riseOk 0 m xs) (hm:m<=1000000000) (hn:xs.length<=1000000000) (hl:l.length<=1000000000):Tri Tryz.prog r 45 [.pointer (some ⟨g,0,none⟩),nv] [pt g (rwr v false),U8R v l] fun _ H => ∃ v',H=[pt g (rwr v' false),U8R v' (l++risingB xs)]:=by
 refine Tri.free2 fun R HR=>?_
 have h6:=z09 (n:=xs.length) (by unfold maxNum;omega)
 refine ae Tryz.func45 Tryz.ntmps45 ?_
 repeat' (first|(refine acl Tryz.func97 ?_;refine acr (z2r r g v l xs.length (by unfold maxNum;omega) (by omega)) ?_;rintro v' H' ⟨w1,rfl⟩;refine apl ?_)|refine aw0 ?_|(refine ap2 ?_ ?_<;>try intro h)|refine aw1 ?_|(refine abx ?_;intro bb)|(refine abz ?_;intro bz)|(refine ahv ?_;intro v' hv')|(refine aac ?_;intro ac cc)|refine aw2 ?_|(refine ap4 ?_ ?_<;>try intro h)|apply True.intro)
 refine z04 (fun gm t H' => ∃ (k:Nat) (wv:Value),gm=xs.length+1 - k/\(k<=xs.length)/\(∃ G,Takes [pt g (rwr wv false),U8R wv (l++(septs xs.length++riseG 0 (xs.take k)))] H' G)/\Sls t 69 [(0,.pointer (some ⟨g,0,none⟩)),(1,nv),(4,.int .i64 k)]) _ ⟨0,w1,rfl,Nat.zero_le _,⟨_,by rw [List.take_zero,riseG,List.append_nil];exact atks⟩,asls⟩ ?_
 rintro gm t H' ⟨k,wv,rfl,hk,⟨G,hp⟩,hs'⟩
 revert t;refine z06 ?_;iterate 66 intro uu'
 refine z01 hp ?_;clear hp
 have hrl:=zcz (by unfold maxNum;omega:m<=maxNum) hok k
 by_cases hlt:k<xs.length
 · have hat:=z76 hok k hlt
   have htk:=z5s xs 0 k hlt
   obtain ⟨n,hnx⟩ : ∃ n,xs.getD k default=n:=⟨_,rfl⟩
   rw [show xs.getD k 0=n from hnx] at hat htk
   obtain ⟨W,hW⟩ : ∃ W,l++(septs xs.length++riseG 0 (xs.take k))=W:=⟨_,rfl⟩
   have hW2:l++(septs xs.length++riseG 0 (xs.take (k+1)))=W++septs (n - lastP 0 xs k):=by rw [htk,← hW];simp
   have hWl:W.length<=10000000000:=by rw [← hW,List.length_append,List.length_append];omega
   rw [hW]
   clear hW htk
   rcases Nat.eq_zero_or_pos k with rfl|hpos
   · rw [show lastP 0 xs 0=0 from rfl,Nat.sub_zero] at hW2
     repeat' (first|(rw [hnx])|(first|((with_reducible apply z02 (id:=4) 13 [(0,true),(1,true),(2,true),(3,true),(4,true),(5,true),(6,true),(7,true),(8,true),(9,true),(10,true),(11,true),(12,false)] [] []);kernel_rfl;(exact atks);kernel_rfl;intro r' hl')|((with_reducible apply z02 (id:=5) 29 [(0,true),(1,true),(2,true),(3,true),(4,true),(5,true),(6,true),(7,true),(8,true),(9,true),(10,true),(11,true),(12,true),(13,true),(14,true),(15,true),(16,true),(17,true),(18,true),(19,true),(20,true),(21,true),(22,true),(23,true),(24,true),(25,true),(26,true),(27,true),(28,true)] [] []);kernel_rfl;(exact atks);kernel_rfl;intro r' hl'))|(refine acl Tryz.func97 ?_;refine acr (z2r r g wv W n (by unfold maxNum;omega) (by omega)) ?_;rintro v' H' ⟨w2,rfl⟩;refine apl ?_)|exact xf|refine aw0 ?_|(refine ap2 ?_ ?_<;>try intro h)|refine aw1 ?_|(refine abx ?_;intro bb)|(refine abz ?_;intro bz)|(refine ahv ?_;intro v' hv')|(refine aac ?_;intro ac cc)|refine aw2 ?_|(refine ap4 ?_ ?_<;>try intro h)|apply True.intro)
     all_goals exact ⟨_,by omega,0+1,w2,rfl,by omega,⟨_,by rw [hW2];exact atks⟩,asls⟩
   · obtain ⟨j,rfl⟩ : ∃ j,k=j+1:=⟨k - 1,by omega⟩
     obtain ⟨q,hq⟩ : ∃ q,xs.getD j default=q:=⟨_,rfl⟩
     rw [show lastP 0 xs (j+1)=q+1 by show xs.getD j 0+1=_;rw [show xs.getD j 0=q from hq]] at hW2 hat
     repeat' (first|(rw [hnx])|(rw [show (((j+1:Nat):Int) - 1).toNat=j by omega])|(rw [hq])|(rw [show (n:Int) - (q:Int) - 1=((n - (q+1):Nat):Int) by omega])|(first|((with_reducible apply z02 (id:=4) 13 [(0,true),(1,true),(2,true),(3,true),(4,true),(5,true),(6,true),(7,true),(8,true),(9,true),(10,true),(11,true),(12,false)] [] []);kernel_rfl;(exact atks);kernel_rfl;intro r' hl')|((with_reducible apply z02 (id:=5) 29 [(0,true),(1,true),(2,true),(3,true),(4,true),(5,true),(6,true),(7,true),(8,true),(9,true),(10,true),(11,true),(12,true),(13,true),(14,true),(15,true),(16,true),(17,true),(18,true),(19,true),(20,true),(21,true),(22,true),(23,true),(24,true),(25,true),(26,true),(27,true),(28,true)] [] []);kernel_rfl;(exact atks);kernel_rfl;intro r' hl'))|(refine acl Tryz.func97 ?_;refine acr (z2r _ g wv W (n - (q+1)) (by unfold maxNum;omega) (by omega)) ?_;rintro v' H' ⟨w2,rfl⟩;refine apl ?_)|exact xf|refine aw0 ?_|(refine ap2 ?_ ?_<;>try intro h)|refine aw1 ?_|(refine abx ?_;intro bb)|(refine abz ?_;intro bz)|(refine ahv ?_;intro v' hv')|(refine aac ?_;intro ac cc)|refine aw2 ?_|(refine ap4 ?_ ?_<;>try intro h)|apply True.intro)
     all_goals exact ⟨_,by omega,j+1+1,w2,rfl,by omega,⟨_,by rw [hW2];exact atks⟩,asls⟩
 · obtain rfl:k=xs.length:=by omega
   rw [List.take_length]
   repeat' (first|exact xf|refine aw0 ?_|(refine ap2 ?_ ?_<;>try intro h)|refine aw1 ?_|(refine abx ?_;intro bb)|(refine abz ?_;intro bz)|(refine ahv ?_;intro v' hv')|(refine aac ?_;intro ac cc)|refine aw2 ?_|(refine ap4 ?_ ?_<;>try intro h)|apply True.intro)
   ((with_reducible apply z1k);exact res_0 rfl)
   exact HR.out _ _ _ [pt g _,U8R _ _] atks ⟨_,rfl⟩
end Go.Proofs.YtohpeoakdgckfaaGreat
