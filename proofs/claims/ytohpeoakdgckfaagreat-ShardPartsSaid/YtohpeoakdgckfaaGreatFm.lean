/- frame.fixed, frame.Put, mudlarkref03.Put: their contracts. -/
import Derived.Test.YtohpeoakdgckfaaGreatShb
import Derived.Test.YtohpeoakdgckfaaGreatPq
import Derived.Test.YtohpeoakdgckfaaGreatKj
import Derived.Test.YtohpeoakdgckfaaGreatCb
set_option maxHeartbeats 4000000
set_option maxRecDepth 10000
namespace Go.Proofs.YtohpeoakdgckfaaGreat
open Go.RowKit Sx
structure PartV where
 tag:UInt8
 val:Value
 data:List UInt8
instance:Inhabited PartV:=⟨⟨0,.slice none 0 0,[]⟩⟩
def encPa (x:PartV):List Value:=[.int .u8 x.tag.toNat,x.val]
def pOf (x:PartV):PartP:=(x.tag,x.data)
abbrev Parts (r:Hp) (v:Value) (xs:List PartV):Prop:=Els r 2 encPa v xs /\ ∀ x∈xs,U8S r x.val x.data
theorem z9g (r:Hp) (g:Nat) (v:Value) (l:List UInt8) (hl:l.length<=60000000000000) :
 Tri Tryz.prog r 39 [.pointer (some ⟨g,0,none⟩)] [pt g (wri v false),U8R v l] fun w H => ∃ a c,w = .slice a l.length c/\H=[U8R w l,pt g (wri v false),U8R v l]:=by
 refine Tri.free2 fun R HR=>?_
 unfold wri
 refine ae Tryz.func39 Tryz.ntmps39 ?_
 repeat' (first|((with_reducible refine z07 73 ?_);(with_reducible apply z05 (A:=U8R v l));(exact atk);intro r' gg hr hgr hgg;(refine acl Tryz.func73 ?_;refine acr (z2u r' v l (hgg.sl hgr) (by omega)) ?_;rintro v' H' ⟨a',c',rfl,rfl⟩;refine apl ?_))|((with_reducible refine z5g ?_ ?_);rfl;intro w ds K' hK;gi_big_op;(with_reducible refine hK _ ?_);clear hK K' ds w)|refine aw0 ?_|(refine ap2 ?_ ?_<;>try intro h)|refine aw1 ?_|(refine abx ?_;intro bb)|(refine abz ?_;intro bz)|(refine ahv ?_;intro v' hv')|(refine aac ?_;intro ac cc)|refine aw2 ?_|(refine ap4 ?_ ?_<;>try intro h)|apply True.intro)
 ((with_reducible apply z00);exact res_1 rfl rfl)
 exact HR.out _ _ _ [U8R _ _,pt g _,U8R v l] atks ⟨_,_,rfl,rfl⟩
theorem zax (r:Hp) (n:Nat) (hn:n<4294967296):Tri Tryz.prog r 92 [.int .u32 n] [] fun w H => ∃ a c,w = .slice a (fixed n).length c/\H=[U8R w (fixed n)]:=by
 refine Tri.free2 fun R HR=>?_
 have hw:=fun g=>zbn r g (.slice none 0 0) false [] n hn (by simp)
 have hby:=fun g v=>z3h r g v (fixed n) (by simp [fixed])
 simp only [List.nil_append] at hw
 refine ae Tryz.func92 Tryz.ntmps92 ?_
 refine z0f (A:=U8R (.slice none 0 0) []) (RowC.nil _ _) ?_
 repeat' (first|(refine acl Tryz.func86 ?_;refine acr (hw _) ?_;rintro v' H' ⟨v1,rfl⟩;refine apl ?_)|(refine acl Tryz.func39 ?_;refine acr (hby _ _) ?_;rintro v' H' ⟨a,c,rfl,rfl⟩;refine apl ?_)|refine aw0 ?_|(refine ap2 ?_ ?_<;>try intro h)|refine aw1 ?_|(refine abx ?_;intro bb)|(refine abz ?_;intro bz)|(refine ahv ?_;intro v' hv')|(refine aac ?_;intro ac cc)|refine aw2 ?_|(refine ap4 ?_ ?_<;>try intro h)|apply True.intro)
 ((with_reducible apply z00);exact res_1 rfl rfl)
 exact HR.out _ _ _ [U8R _ _] atks ⟨_,_,rfl,rfl⟩
theorem zgg (r:Hp) (bz:Nat) (v1 v2:Value) (l1 l2:List UInt8) (T:TypeId) (hl:(l1++l2).length<=1000000000):Tri Tryz.prog r 38 [.slice (some ⟨bz,0,none⟩) 2 2] [U8R v1 l1,U8R v2 l2,pt bz (.cells [v1,v2].toArray T (0,0))] fun w H => ∃ a c,w = .slice a (l1++l2).length c/\H=[U8R w (l1++l2)]:=by
 refine Tri.frz fun r1 g1 _ hg1 h1=>Tri.frz fun r2 g2 hr2 hg2 h2=>Tri.frz fun r3 g3 hr3 hg3 h3=>?_
 have hb:r3 bz=some (.cells [v1,v2].toArray T (0,0)):=by
  refine hg3 _ _ ?_
  rw [h3];exact z0h
 have e1:U8S r3 v1 l1:=((h1.sl hg1).mono hr2).mono hr3
 have e2:U8S r3 v2 l2:=(h2.sl hg2).mono hr3
 have hz:Rowz r3 (.slice (some ⟨bz,0,none⟩) 2 2) [⟨v1,l1⟩,⟨v2,l2⟩]:=by
  refine ⟨⟨fun _=>rfl,Sl.lit (n:=2) hb rfl (by simp [maxLen])⟩,fun z hz=>?_⟩
  rcases List.mem_cons.1 hz with rfl|hz
  · exact e1
  · obtain rfl:=List.mem_singleton.1 hz
    exact e2
 have h:=z3y r3 (.slice (some ⟨bz,0,none⟩) 2 2) _ hz (by simpa [flatB] using hl) (by simp)
 rw [show flatB [(⟨v1,l1⟩:BytV),⟨v2,l2⟩]=l1++l2 by simp [flatB]] at h
 exact h
theorem zqr {Z:List BytV} {b:Nat} {t:UInt8} {v:Value} {l:List UInt8} (h:Hp) (e:all [ByC Z,pt b (.cells [.int .u8 t.toNat].toArray 5 (0,0)),U8R v l] h):ByC (Z++[⟨.slice (some ⟨b,0,none⟩) 1 1,[t]⟩,⟨v,l⟩]) h:=by
 obtain ⟨x,y,d,rfl,h1,h2⟩:=e
 obtain ⟨x2,y2,d2,rfl,h3,h4⟩:=h2
 obtain ⟨d3,d4⟩:=dj_un.1 d
 have h5:U8R (.slice (some ⟨b,0,none⟩) 1 1) [t] x2:=RowC.of_pt (n:=1) (cap:=1) (sz:=1) (Nat.le_refl _) (by simp [maxLen]) rfl _ h3
 have h6:=z38 (Z:=Z) (v:= .slice (some ⟨b,0,none⟩) 1 1) (b:=[t]) (un x x2) ⟨x,x2,d3,rfl,h1,z11.2 h5⟩
 have h7:=z38 (un (un x x2) y2) ⟨un x x2,y2,un_dj.2 ⟨d4,d2⟩,rfl,h6,h4⟩
 rw [z1b] at h7
 rw [List.append_assoc] at h7
 exact h7
theorem zgh {a:Option Addr} {c:Nat} {D S:List UInt8}:U8R (.slice a (D++S).length c) (D++S)=RowC 5 1 (.slice a (D.length+S.length) c) (D.length+S.length) (u8s D++u8s S):=by
 unfold U8R
 rw [List.length_append,show u8s (D++S)=u8s D++u8s S by simp [u8s]]
theorem zgi (l:List UInt8):crcB l<4294967296:=by
 unfold crcB
 exact z8x (z3x _ _ (by decide))
theorem zqs {r:Hp} {Zo Z:List BytV} {t n:BytV} {v:Value} {l:List UInt8} (hm : ∀ z∈Z,z∈Zo\/U8S r z.val z.data) (hv:U8S r v l) : ∀ z∈Z++[t,n,⟨v,l⟩],z∈Zo++[t,n]\/U8S r z.val z.data:=by
 intro z hz
 rcases List.mem_append.1 hz with hz|hz
 · exact (hm z hz).imp_left fun h=>List.mem_append_left _ h
 · simp only [List.mem_cons,List.not_mem_nil,or_false] at hz
   rcases hz with rfl|rfl|rfl
   · exact .inl (by simp)
   · exact .inl (by simp)
   · exact .inr hv
theorem znx (r:Hp) (v:Value) (xs:List PartV) (hv:Parts r v xs) (hb:(bodyB (xs.map pOf)).length<=1000000) (hn:xs.length<=1000000):Tri Tryz.prog r 37 [v] [] fun w H => ∃ a c,w = .tuple #[.slice a (frameB (xs.map pOf)).length c,.int .i64 0]/\H=[U8R (.slice a (frameB (xs.map pOf)).length c) (frameB (xs.map pOf))]:=by
 refine Tri.free2 fun R HR=>?_
 obtain ⟨hve,hvb⟩:=hv
 have hmap:(xs.map pOf).length=xs.length:=List.length_map ..
 have h0:(bodyB ((xs.map pOf).take 0)).length=0:=rfl
 refine ae Tryz.func37 Tryz.ntmps37 ?_
 refine z0f (A:=RowC 26 1 (.slice none 0 0) 0 []) (RowC.nil _ _) ?_
 refine z0f (A:=ByC []) rfl ?_
 repeat' (first|refine aw0m ?_|(refine ap2 ?_ ?_<;>try intro h)|refine aw1m ?_|(refine abx ?_;intro bb)|(refine abz ?_;intro bz)|(refine ahv ?_;intro v' hv')|(refine aac ?_;intro ac cc)|refine aw2 ?_|(refine ap4 ?_ ?_<;>try intro h)|apply True.intro)
 refine z04 (fun gm t H' => ∃ (k:Nat) (Zo Z:List BytV) (a:Option Addr) (c:Nat),gm=xs.length+1 - k/\(k<=xs.length)/\(flatB Z=bodyB ((xs.map pOf).take k))/\(Z.length=3*k)/\(∀ z∈Z,z∈Zo\/U8S r z.val z.data)/\(∃ G,Takes [RowC 26 1 (.slice a Z.length c) Z.length (Z.flatMap encBy),ByC Zo] H' G)/\Sls t 55 [(4,.slice a Z.length c),(5,.int .i64 (8+((bodyB ((xs.map pOf).take k)).length:Nat):Int)),(10,v),(11,.int .i64 xs.length),(12,.int .i64 k)]) _ ⟨0,[],[],none,0,rfl,Nat.zero_le _,rfl,rfl,(fun _ h=>by cases h),⟨_,atks⟩,asls⟩ ?_
 rintro gm t H' ⟨k,Zo,Z,a,c,rfl,hk,hZ,hZl,hm,⟨G,hp⟩,hs'⟩
 revert t;refine z06 ?_;iterate 50 intro uu'
 refine z01 hp ?_;clear hp
 have hble:=z77 (xs.map pOf) k
 by_cases hlt:k<xs.length
 · have htk:=zbe (ps:=xs.map pOf) (k:=k) (by rw [hmap];exact hlt)
   have hgd:(xs.map pOf).getD k default=pOf (xs.getD k default):=by
    rw [List.getD_eq_getElem?_getD,List.getElem?_map,List.getD_eq_getElem?_getD,List.getElem?_eq_getElem hlt];rfl
   have hxb:=hvb _ (z0g hlt)
   rw [hgd] at htk
   have hble2:=z77 (xs.map pOf) (k+1)
   obtain ⟨x,hx⟩ : ∃ x,xs.getD k default=x:=⟨_,rfl⟩
   rw [hx] at hxb htk
   obtain ⟨tg,xv,xd⟩:=x
   dsimp only at hxb
   rw [show partB (pOf ⟨tg,xv,xd⟩)=[tg]++(septs xd.length++xd) from rfl] at htk
   have hlen:=congrArg List.length htk
   rw [List.length_append,List.length_append,List.length_append,List.length_singleton] at hlen
   have hxe:encPa ⟨tg,xv,xd⟩=[.int .u8 tg.toNat,xv]:=rfl
   have hone : ∀ (b:Nat) (a5:Option Addr) (n5 c5:Nat),([.slice (some ⟨b,0,none⟩) 1 1,.slice a5 n5 c5,xv]:List Value).all one?=true:=fun b a5 n5 c5=>by
    rw [List.all_cons,List.all_cons,List.all_cons,hxb.one]
    rfl
   refine z0f (A:=U8R (.slice none 0 0) []) (RowC.nil _ _) ?_
   have hnum:=fun r' bw bz (h:r' bz=some (.cells [.int .i64 (xd.length:Nat)].toArray 3 (0,0)))=>z1i r' bw (.slice none 0 0) [] (.slice (some ⟨bz,0,none⟩) 1 1) xd.length (Sl.lit (n:=1) h rfl (by simp [maxLen])) (by unfold maxNum;omega) (by simp)
   simp only [List.nil_append] at hnum
   repeat' (first|(rw [hx,hxe])|((with_reducible apply z0c (E:=50));exact z0l;(exact qcl);intro b7;(refine apk ?_))|((with_reducible apply z0c (E:=70));exact z0l;(exact qcl);intro bw;(refine apk ?_))|((with_reducible apply z0k [(bz,.cells [.int .i64 (xd.length:Nat)].toArray 3 (0,0))]);(exact atks);intro r' hl';refine acl Tryz.func81 ?_;refine acr (hnum _ bw bz (Lent.h1 hl')) ?_;rintro v' H' ⟨w1,rfl⟩;all_goals refine apm ?_)|((with_reducible apply z1h (id:=8) 9 (Pl.seg [(0,true),(1,true),(2,true),(5,true),(6,true)] (Pl.two 3 4 (Pl.seg [(4,false),(7,false),(8,false)] Pl.leaf) (Pl.seg [(3,false),(7,false),(8,false)] Pl.leaf))) (List.replicate 9 true++List.replicate 1 false).toArray [(9,false)] [(b7,.cells [.int .u8 tg.toNat,xv].toArray 50 (0,0))]);kernel_rfl;(exact atks);kernel_rfl;intro r' hl')|(refine acl Tryz.func39 ?_;refine acr (z9g _ bw w1 (septs xd.length) (by omega)) ?_;rintro v' H' ⟨a5,c5,rfl,rfl⟩;refine apl ?_)|((with_reducible apply z0t (E:=5));exact ty_el;exact z03;rfl;rfl;rfl;intro bt;(refine apk ?_))|((with_reducible refine z0u ?_);(with_reducible apply z0k [(bz,.cells [.slice (some ⟨bt,0,none⟩) 1 1,.slice a5 (septs xd.length).length c5,xv].toArray 26 (0,0))]);(exact atks);intro r9 hl9;(with_reducible apply z0v (news:=[.slice (some ⟨bt,0,none⟩) 1 1,.slice a5 (septs xd.length).length c5,xv]));exact ty_el;exact z03;rfl;rfl;rfl;rfl;exact (Sl.lit (n:=3) (Lent.h1 hl9) rfl (by simp [maxLen]));(exact atk);exact (hone _ _ _ _);(unfold maxLen;omega);(omega);intro a' c';refine apm ?_)|(first|((with_reducible apply z0t);exact ty_el;exact z03;rfl;rfl;rfl;intro bz;(refine apk ?_))|((with_reducible apply z0y);exact ty_el;exact z03;rfl;rfl;rfl;intro bz;(refine apk ?_)))|exact xf|refine aw0 ?_|(refine ap2 ?_ ?_<;>try intro h)|refine aw1 ?_|(refine abx ?_;intro bb)|(refine abz ?_;intro bz)|(refine ahv ?_;intro v' hv')|(refine aac ?_;intro ac cc)|refine aw2 ?_|(refine ap4 ?_ ?_<;>try intro h)|apply True.intro)
   all_goals
    refine z0b (As:=[ByC Zo,pt bt (.cells [.int .u8 tg.toNat].toArray 5 (0,0)),U8R (.slice a5 (septs xd.length).length c5) (septs xd.length)]) (D:=ByC (Zo++[⟨.slice (some ⟨bt,0,none⟩) 1 1,[tg]⟩,⟨.slice a5 (septs xd.length).length c5,septs xd.length⟩])) atks (fun h e=>zqr h e) ?_
    repeat' (first|((with_reducible apply z02 (id:=9) 9 [(0,true),(4,true),(5,true),(6,true),(1,false),(2,true),(3,true),(7,true),(8,true)] [(9,false)] [(b7,.cells [.int .u8 tg.toNat,xv].toArray 50 (0,0))]);kernel_rfl;(exact atks);kernel_rfl;intro r' hl')|(refine acl Tryz.func39 ?_;refine acr (z9g _ bw w1 (septs xd.length) (by omega)) ?_;rintro v' H' ⟨a6,c6,rfl,rfl⟩;refine apl ?_)|exact xf|refine aw0 ?_|(refine ap2 ?_ ?_<;>try intro h)|refine aw1 ?_|(refine abx ?_;intro bb)|(refine abz ?_;intro bz)|(refine ahv ?_;intro v' hv')|(refine aac ?_;intro ac cc)|refine aw2 ?_|(refine ap4 ?_ ?_<;>try intro h)|apply True.intro)
    obtain ⟨N3,hN3⟩ : ∃ N3:List BytV,N3=[⟨.slice (some ⟨bt,0,none⟩) 1 1,[tg]⟩,⟨.slice a5 (septs xd.length).length c5,septs xd.length⟩,⟨xv,xd⟩]:=⟨_,rfl⟩
    have hz3:(Z++N3).length=Z.length+3:=by rw [hN3];simp
    exact ⟨_,by omega,k+1,Zo++[⟨.slice (some ⟨bt,0,none⟩) 1 1,[tg]⟩,⟨.slice a5 (septs xd.length).length c5,septs xd.length⟩],Z++N3,a',c',rfl,by omega,by rw [htk,← hZ,hN3];simp [flatB],by omega,by rw [hN3];exact zqs hm hxb,⟨_,by rw [hz3,List.flatMap_append,hN3];exact atks⟩,asls⟩
 · obtain rfl:k=xs.length:=by omega
   rw [show (xs.map pOf).take xs.length=xs.map pOf by rw [← hmap,List.take_length]] at hZ hble ⊢
   generalize hps:xs.map pOf=ps at *
   have hcat:=fun r1 g1 (hr1:sub r r1) (hg1:sub g1 r1) (hA1:ByC Zo g1) r2 g2 (hr2:sub r1 r2) (hg2:sub g2 r2) (hA2:RowC 26 1 (.slice a Z.length c) Z.length (Z.flatMap encBy) g2)=>z3y r2 _ Z ⟨⟨fun _=>rfl,hA2.sl hg2⟩,fun z hz=>by
    rcases hm z hz with h|h
    · exact zei hA1 (fun b o e=>hr2 b o (hg1 b o e)) z h
    · exact (h.mono hr1).mono hr2⟩ (by rw [hZ];omega) (by omega)
   rw [hZ] at hcat
   have hfx:=zax r ((bodyB ps).length+8) (by omega)
   have hfl:(fixed ((bodyB ps).length+8)).length=4:=rfl
   unfold frameB at HR
   have hhd:headB ps=fixed ((bodyB ps).length+8)++bodyB ps:=rfl
   obtain ⟨B,hB⟩ : ∃ B,bodyB ps=B:=⟨_,rfl⟩
   obtain ⟨F,hF⟩ : ∃ F,fixed (B.length+8)=F:=⟨_,rfl⟩
   rw [hB] at hcat hfx hfl hhd hb ⊢
   rw [hF] at hfx hfl hhd
   have hhl:(headB ps).length=B.length+4:=by rw [hhd,List.length_append,hfl];omega
   have hc2:=fun bz v1 v2=>zgg r bz v1 v2 F B 26 (by rw [← hhd,hhl];omega)
   rw [← hhd] at hc2
   generalize headB ps=D at *
   have hfc:=zax r (crcB D) (zgi D)
   obtain ⟨s,hs⟩ : ∃ s,crcB D=s:=⟨_,rfl⟩
   rw [hs] at hfc HR
   have hsum : ∀ r' bz v,r' bz=some (.cells [v].toArray 26 (0,0))->U8S r' v D->Tri Tryz.prog r' 80 [.slice (some ⟨bz,0,none⟩) 1 1] [] fun w H=>w = .int .u32 (s:Nat)/\H=[]:=fun r' bz v h h2=>by
    have h3:=zgj r' (.slice (some ⟨bz,0,none⟩) 1 1) [(v,D)] ⟨Sl.lit (n:=1) h rfl (by simp [maxLen]),fun x hx=>by obtain rfl:=List.mem_singleton.1 hx;exact h2⟩
    rw [show flat [(v,D)]=D by simp [flat]] at h3
    rw [← hs]
    exact h3
   have hsl:(fixed s).length=4:=rfl
   obtain ⟨S,hS⟩ : ∃ S,fixed s=S:=⟨_,rfl⟩
   rw [hS] at hfc HR hsl
   repeat' (first|(rw [show ((8:Int)+(B.length:Nat))=((B.length+8:Nat):Int) by omega])|(refine acl Tryz.func92 ?_;refine acr (hfx) ?_;rintro v' H' ⟨a1,c1,rfl,rfl⟩;refine apl ?_)|((with_reducible refine z07 38 ?_);(with_reducible apply z05 (A:=ByC Zo));(exact atk);intro r1 g1 hr1 hg1 hA1;(with_reducible apply z05 (A:=RowC 26 1 (.slice a Z.length c) Z.length (Z.flatMap encBy)));(exact atk);intro r2 g2 hr2 hg2 hA2;(refine acl Tryz.func38 ?_;refine acr (hcat r1 g1 hr1 hg1 hA1 r2 g2 hr2 hg2 hA2) ?_;rintro v' H' ⟨a2,c2,rfl,rfl⟩;refine apl ?_))|(first|((with_reducible apply z0t);exact ty_el;exact z03;rfl;rfl;rfl;intro bz;(refine apk ?_))|((with_reducible apply z0y);exact ty_el;exact z03;rfl;rfl;rfl;intro bz;(refine apk ?_)))|(refine acl Tryz.func38 ?_;refine acr (hc2 bz (.slice a1 F.length c1) (.slice a2 B.length c2)) ?_;rintro v' H' ⟨a3,c3,rfl,rfl⟩;refine apl ?_)|((with_reducible refine z07 80 ?_);(with_reducible apply z05 (A:=U8R (.slice a3 D.length c3) D));(exact atk);intro r1 g1 hr1 hg1 hA1;((with_reducible apply z0k [(bz,.cells [.slice a3 D.length c3].toArray 26 (0,0))]);(exact atks);intro r' hl';refine acl Tryz.func80 ?_;refine acr (hsum _ bz _ (Lent.h1 hl') ((hA1.sl hg1).mono hl'.1)) ?_;rintro v' H' ⟨rfl,rfl⟩;all_goals refine apm ?_))|(refine acl Tryz.func92 ?_;refine acr (hfc) ?_;rintro v' H' ⟨a4,c4,rfl,rfl⟩;refine apl ?_)|((with_reducible refine z0u ?_);(with_reducible apply z05 (A:=U8R (.slice a4 S.length c4) S));(exact atk);intro r1 g1 hr1 hg1 hA1;(with_reducible apply z0v (news:=u8s S));exact ty_el;exact z03;rfl;rfl;rfl;rfl;exact (hA1.sl hg1);(exact atk);exact (z1y _);(unfold maxLen;omega);(omega);intro a' c';(refine apk ?_))|exact xf|refine aw0 ?_|(refine ap2 ?_ ?_<;>try intro h)|refine aw1 ?_|(refine abx ?_;intro bb)|(refine abz ?_;intro bz)|(refine ahv ?_;intro v' hv')|(refine aac ?_;intro ac cc)|refine aw2 ?_|(refine ap4 ?_ ?_<;>try intro h)|apply True.intro)
   ((with_reducible apply z00);exact res_2 rfl rfl rfl)
   exact HR.out _ _ _ [U8R (.slice a' (D++S).length c') (D++S)] (by rw [zgh];(exact atks)) ⟨a',c',by rw [List.length_append],rfl⟩
theorem zqt {a:Option Addr} {c:Nat} {D:List UInt8} {t:UInt8}:U8R (.slice a (D++[t]).length c) (D++[t])=RowC 5 1 (.slice a (D.length+1) c) (D.length+1) (u8s D++[.int .u8 t.toNat]):=by
 unfold U8R
 rw [List.length_append,show u8s (D++[t])=u8s D++[.int .u8 t.toNat] by simp [u8s]]
 rfl
theorem u8R_one' {a:Option Addr} {c:Nat} {D:List UInt8} {t:UInt8}:U8R (.slice a (D.length+1) c) (D++[t])=RowC 5 1 (.slice a (D.length+1) c) (D.length+1) (u8s D++[.int .u8 t.toNat]):=by
 have h:=zqt (a:=a) (c:=c) (D:=D) (t:=t)
 rwa [List.length_append] at h
theorem u8R_app' {a:Option Addr} {c:Nat} {D S:List UInt8}:U8R (.slice a (D.length+S.length) c) (D++S)=RowC 5 1 (.slice a (D.length+S.length) c) (D.length+S.length) (u8s D++u8s S):=by
 have h:=zgh (a:=a) (c:=c) (D:=D) (S:=S)
 rwa [List.length_append] at h
theorem z5m {v:Value} {D:List UInt8} (h:Hp) (e:U8R v D h) : ∃ i:Option Addr × Nat,v = .slice i.1 D.length i.2/\all [U8R v D] h:=by
 rcases e.2 with ⟨e1,e2,_⟩ | ⟨b,cap,cur,e1,_⟩
 · exact ⟨(none,0),by rw [e1,e2],z11.2 e⟩
 · exact ⟨(some ⟨b,0,none⟩,cap),e1,z11.2 e⟩
theorem ze1 (r:Hp) (v:Value) (xs:List PartV) (hv:Parts r v xs) (hb:(bodyB (xs.map pOf)).length<=1000000) (hn:xs.length<=1000000):Tri Tryz.prog r 21 [v] [] fun w H => ∃ a c,w = .tuple #[.slice a (frameB (xs.map pOf)).length c,.int .i64 0]/\H=[U8R (.slice a (frameB (xs.map pOf)).length c) (frameB (xs.map pOf))]:=by
 refine Tri.free2 fun R HR=>?_
 obtain ⟨hve,hvb⟩:=hv
 have hmap:(xs.map pOf).length=xs.length:=List.length_map ..
 refine ae Tryz.func21 Tryz.ntmps21 ?_
 refine z0f (A:=U8R (.slice none 0 0) []) (RowC.nil _ _) ?_
 repeat' (first|((with_reducible apply z2w);rfl;(exact qcl);intro bw;(refine apk ?_))|refine aw0 ?_|(refine ap2 ?_ ?_<;>try intro h)|refine aw1 ?_|(refine abx ?_;intro bb)|(refine abz ?_;intro bz)|(refine ahv ?_;intro v' hv')|(refine aac ?_;intro ac cc)|refine aw2 ?_|(refine ap4 ?_ ?_<;>try intro h)|apply True.intro)
 refine z04 (fun gm t H' => ∃ (k:Nat) (wv:Value),gm=xs.length+1 - k/\(k<=xs.length)/\(∃ G,Takes [pt bw (rwr wv false),U8R wv (bodyB ((xs.map pOf).take k))] H' G)/\Sls t 74 [(0,v),(4,.pointer (some ⟨bw,0,none⟩)),(5,.int .i64 k)]) _ ⟨0,.slice none 0 0,rfl,Nat.zero_le _,⟨_,atks⟩,asls⟩ ?_
 rintro gm t H' ⟨k,wv,rfl,hk,⟨G,hp⟩,hs'⟩
 revert t;refine z06 ?_;iterate 71 intro uu'
 refine z01 hp ?_;clear hp
 have hble:=z77 (xs.map pOf) k
 by_cases hlt:k<xs.length
 · have htk:=zbe (ps:=xs.map pOf) (k:=k) (by rw [hmap];exact hlt)
   have hgd:(xs.map pOf).getD k default=pOf (xs.getD k default):=by
    rw [List.getD_eq_getElem?_getD,List.getElem?_map,List.getD_eq_getElem?_getD,List.getElem?_eq_getElem hlt];rfl
   have hxb:=hvb _ (z0g hlt)
   rw [hgd] at htk
   have hble2:=z77 (xs.map pOf) (k+1)
   obtain ⟨x,hx⟩ : ∃ x,xs.getD k default=x:=⟨_,rfl⟩
   rw [hx] at hxb htk
   have hxv:(xs.getD k default).val=x.val:=by rw [hx]
   have hxt:(xs.getD k default).tag=x.tag:=by rw [hx]
   obtain ⟨tg,xv,xd⟩:=x
   dsimp only at hxb hxv hxt
   rw [show partB (pOf ⟨tg,xv,xd⟩)=[tg]++texts xd from rfl] at htk
   have hlen:=congrArg List.length htk
   rw [List.length_append,List.length_append,List.length_singleton] at hlen
   have htl:xd.length<=(texts xd).length:=by unfold texts;rw [List.length_append];omega
   obtain ⟨B,hB⟩ : ∃ B,bodyB ((xs.map pOf).take k)=B:=⟨_,rfl⟩
   rw [hB] at htk hlen hble ⊢
   refine z1x (ι:=Option Addr × Nat) (B:=fun _=>[U8R wv B]) (φ:=fun i=>wv = .slice i.1 B.length i.2) atk z5m ?_
   rintro ⟨a,c⟩ rfl
   dsimp only [List.cons_append,List.nil_append]
   have htx:=fun r' a' c' (h:U8S r' xv xd)=>z7s r' bw (.slice a' (B.length+1) c') (B++[tg]) xv xd h (by omega) (by rw [List.length_append,List.length_singleton];omega)
   simp only [u8R_one'] at htx
   repeat' (first|(rw [hxv])|(rw [hxt])|((with_reducible apply z02 (id:=5) 12 [(0,true),(1,true),(2,true),(3,true),(4,true),(5,true),(6,true),(7,true),(8,true),(9,true),(10,false),(11,false)] [(12,false),(13,false),(14,false)] [(bw,.cells [.slice a B.length c,.bool false].toArray 85 (0,0))]);kernel_rfl;(exact atks);kernel_rfl;intro r' hl')|(first|((with_reducible apply z0t);exact ty_el;exact z03;rfl;rfl;rfl;intro bz;(refine apk ?_))|((with_reducible apply z0y);exact ty_el;exact z03;rfl;rfl;rfl;intro bz;(refine apk ?_)))|(first|((with_reducible apply z0d);exact ty_el;exact z03;rfl;rfl;rfl;(exact atk);(exact atk);rfl;omega;intro a' c';(refine apk ?_))|((with_reducible apply z0m);exact ty_el;exact z03;rfl;rfl;rfl;rfl;(exact atk);(exact atk);rfl;rfl;omega;intro a' c';(refine apk ?_)))|(refine acl Tryz.func65 ?_;refine acr (htx _ a' c' hxb) ?_;rintro v' H' ⟨w2,rfl⟩;refine apl ?_)|exact xf|refine aw0 ?_|(refine ap2 ?_ ?_<;>try intro h)|refine aw1 ?_|(refine abx ?_;intro bb)|(refine abz ?_;intro bz)|(refine ahv ?_;intro v' hv')|(refine aac ?_;intro ac cc)|refine aw2 ?_|(refine ap4 ?_ ?_<;>try intro h)|apply True.intro)
   exact ⟨_,by omega,k+1,w2,rfl,by omega,⟨_,by rw [htk,← List.append_assoc];exact atks⟩,asls⟩
 · obtain rfl:k=xs.length:=by omega
   rw [show (xs.map pOf).take xs.length=xs.map pOf by rw [← hmap,List.take_length]] at hble ⊢
   generalize hps:xs.map pOf=ps at *
   unfold frameB at HR
   have hhd:headB ps=fixed ((bodyB ps).length+8)++bodyB ps:=rfl
   have hfl:(fixed ((bodyB ps).length+8)).length=4:=rfl
   obtain ⟨B,hB⟩ : ∃ B,bodyB ps=B:=⟨_,rfl⟩
   obtain ⟨F,hF⟩ : ∃ F,fixed (B.length+8)=F:=⟨_,rfl⟩
   rw [hB] at hfl hhd hb ⊢
   have hf1:=fun bv=>z68 r bv (.slice none 0 0) [] (B.length+8) (by omega) (by simp)
   rw [hF] at hfl hhd hf1
   simp only [List.nil_append] at hf1
   have hf2:=fun bv a2 c2=>z68 r bv (.slice a2 (F.length+B.length) c2) (F++B) (crcB (F++B)) (zgi _) (by rw [List.length_append];omega)
   have hon:=fun r' v n (h:Sl r' 1 v n (u8s F++u8s B))=>zck r' v n (F++B) (by rw [show u8s (F++B)=u8s F++u8s B by simp [u8s]];exact h)
   rw [show inv32 (crcAll 4294967295 (F++B))=crcB (F++B) from rfl] at hon
   rw [hhd] at HR
   simp only [u8R_app'] at hf2
   generalize crcB (F++B)=s at *
   have hsl:(fixed s).length=4:=rfl
   generalize fixed s=S at *
   refine z0f (A:=U8R (.slice none 0 0) []) (RowC.nil _ _) ?_
   refine z1x (ι:=Option Addr × Nat) (B:=fun _=>[U8R wv B]) (φ:=fun i=>wv = .slice i.1 B.length i.2) atk z5m ?_
   rintro ⟨a,c⟩ rfl
   dsimp only [List.cons_append,List.nil_append]
   repeat' (first|(rw [show ((B.length:Nat):Int)+8=((B.length+8:Nat):Int) by omega])|((with_reducible apply z2w);rfl;(exact qcl);intro bv;(refine apk ?_))|(refine acl Tryz.func66 ?_;refine acr (hf1 bv) ?_;rintro v' H' ⟨v1,rfl⟩;refine apl ?_)|((with_reducible apply z02 (id:=12) 10 [(0,true),(1,true),(2,true),(3,true),(4,true),(5,true),(6,true),(7,true),(8,true),(9,false)] [(10,false),(11,false),(12,false)] [(bv,.cells [v1,.bool false].toArray 85 (0,0)),(bw,.cells [.slice a B.length c,.bool false].toArray 85 (0,0))]);kernel_rfl;(exact atks);kernel_rfl;intro r' hl')|((with_reducible refine z0u ?_);(with_reducible apply z05 (A:=U8R (.slice a B.length c) B));(exact atk);intro r1 g1 hr1 hg1 hA1;(with_reducible apply z0v (news:=u8s B));exact ty_el;exact z03;rfl;rfl;rfl;rfl;exact (hA1.sl hg1);(exact atk);exact (z1y _);(unfold maxLen;omega);(omega);intro a2 c2;(refine apk ?_))|((with_reducible refine z07 63 ?_);(with_reducible apply z05 (A:=RowC 5 1 (.slice a2 (F.length+B.length) c2) (F.length+B.length) (u8s F++u8s B)));(exact atk);intro r1 g1 hr1 hg1 hA1;(refine acl Tryz.func63 ?_;refine acr (hon r1 _ _ (hA1.sl hg1)) ?_;rintro v' H' ⟨rfl,rfl⟩;refine apl ?_))|(refine acl Tryz.func66 ?_;refine acr (hf2 bv a2 c2) ?_;rintro v' H' ⟨v3,rfl⟩;refine apl ?_)|((with_reducible apply z1x (c:= .seq (.region 14 _ _) _) (A:=U8R v3 (F++B++S)) (ι:=Option Addr × Nat) (B:=fun _=>[U8R v3 (F++B++S)]) (φ:=fun i=>v3 = .slice i.1 (F++B++S).length i.2));(with_reducible (exact atk));exact z5m;(rintro ⟨a4,c4⟩ hv3))|refine aw0 ?_|(refine ap2 ?_ ?_<;>try intro h)|refine aw1 ?_|(refine abx ?_;intro bb)|(refine abz ?_;intro bz)|(refine ahv ?_;intro v' hv')|(refine aac ?_;intro ac cc)|refine aw2 ?_|(refine ap4 ?_ ?_<;>try intro h)|apply True.intro)
   dsimp only at hv3
   subst hv3
   ((with_reducible apply z00);exact res_2 rfl rfl rfl)
   exact HR.out _ _ _ [U8R _ _] atks ⟨_,_,rfl,rfl⟩
end Go.Proofs.YtohpeoakdgckfaaGreat
