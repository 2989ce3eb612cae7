/- mudlarkref23.Files, Places: their contracts. -/
import Derived.Test.YtohpeoakdgckfaaGreatFw
import Derived.Test.YtohpeoakdgckfaaGreatRl
import Derived.Test.YtohpeoakdgckfaaGreatSv
import Derived.Test.YtohpeoakdgckfaaGreatKm
import Derived.Test.YtohpeoakdgckfaaGreatOn
set_option maxHeartbeats 4000000
set_option maxRecDepth 10000
namespace Go.Proofs.YtohpeoakdgckfaaGreat
open Go.RowKit Sx
def okP (z:PartV):PartP × Bool:=(pOf z,true)
theorem zrl (Z:List PartV):(Z.map okP).all (·.2)=true:=by
 rw [List.all_map];simp [okP]
theorem zrm (Z:List PartV):(Z.map okP).map (·.1)=Z.map pOf:=by rw [List.map_map];rfl
theorem za3 (r:Hp) (v:Value) (b:List UInt8) (hv:U8S r v b) (hb:b.length<=1000000):Tri Tryz.prog r 20 [v] [] fun w H=>match partsF b with
 | some ps => ∃ a c,w = .tuple #[.slice a ps.length c,.int .i64 0]/\H=[PrtC (.slice a ps.length c) ps]
 | none=>w = .tuple #[.slice none 0 0,.int .i64 9]/\H=[]:=by
 refine Tri.free2 fun R HR=>?_
 have hx1:=z9f (some b)
 have hx2:=z9f (some (b.drop (b.length - 4)))
 by_cases h8:8<=b.length
 · have hcut3:List.take (((b.length - 4:Nat):Int).toNat - Int.toNat 0) (List.drop (Int.toNat 0) b)=b.take (b.length - 4):=rfl
   have hf1:=fun r' g (h:U8S r' v b)=>z9v r' g v b 0 false h (by omega) (Nat.zero_le _)
   have hf2:=fun r' g (h:U8S r' v b)=>z9v r' g v b (b.length - 4) false h (by omega) (by omega)
   rw [show refSt b 0 false=some b from rfl] at hf1
   rw [show refSt b (b.length - 4) false=some (b.drop (b.length - 4)) from rfl] at hf2
   refine ae Tryz.func20 Tryz.ntmps20 ?_
   have hn4:((b.length:Nat):Int) - 4=((b.length - 4:Nat):Int):=by omega
   have hon : ∀ r' v',U8S r' v' (b.take (b.length - 4))->Tri Tryz.prog r' 63 [v'] [] fun w H=>w = .int .u32 (crcB (b.take (b.length - 4)):Nat)/\H=[]:=fun r' v' h=>zck r' v' _ _ h
   repeat' (first|((with_reducible apply z2w);rfl;(exact qcl);intro bb;(refine apk ?_))|(rw [hn4])|((with_reducible apply sw_midM (c1:= .region 6 _ _) (I:=fun t' H'=>(∃ G,Takes [] H' G)/\(t'.length=87/\t'[0]?=some (v)/\t'[4]?=some (.int .i64 b.length)/\t'[40]?=some (.bool (!okF b))))))|refine aw0 ?_|(refine ap2 ?_ ?_<;>try intro h)|refine aw1 ?_|(refine abx ?_;intro bb)|(refine abz ?_;intro bz)|(refine ahv ?_;intro v' hv')|(refine aac ?_;intro ac cc)|refine aw2 ?_|(refine ap4 ?_ ?_<;>try intro h)|apply True.intro)
   · revert bb
     revert bb
     intro b5 b6
     by_cases hq1:(fixR (some b)).1=b.length
     · have hd1:decide (((fixR (some b)).1:Int)=(b.length:Int))=true:=decide_eq_true (by omega)
       by_cases hq2:(fixR (some (b.drop (b.length - 4)))).1=crcB (b.take (b.length - 4))
       · have hd2:decide (((fixR (some (b.drop (b.length - 4)))).1:Int)=((crcB (b.take (b.length - 4)):Nat):Int))=true:=decide_eq_true (by omega)
         have hokf:okF b=true:=by unfold okF;rw [decide_eq_true h8,decide_eq_true hq1,decide_eq_true hq2];rfl
         repeat' (first|(rw [hn4])|(rw [hcut3] at hv')|(rw [hd1])|(rw [hd2])|(first|((with_reducible apply z02 (id:=6) 15 [(0,true),(3,true),(1,false),(2,true),(4,true),(5,true),(6,true),(8,true),(9,true),(10,true),(11,true),(7,false),(12,false),(13,true),(14,true)] [] []);kernel_rfl;(exact atks);kernel_rfl;intro r' hl'))|(refine acl Tryz.func62 ?_;refine acr (hf1 _ b5 (hv.mono hl'.1)) ?_;rintro v' H' ⟨rfl,at2,bad2,_,_,rfl⟩;refine apl ?_)|(refine acl Tryz.func62 ?_;refine acr (hf2 _ b6 (hv.mono hl'.1)) ?_;rintro v' H' ⟨rfl,at3,bad3,_,_,rfl⟩;refine apl ?_)|(refine acl Tryz.func63 ?_;refine acr (hon _ _ hv') ?_;rintro v' H' ⟨rfl,rfl⟩;refine apl ?_)|exact xf|refine aw0 ?_|(refine ap2 ?_ ?_<;>try intro h)|refine aw1 ?_|(refine abx ?_;intro bb)|(refine abz ?_;intro bz)|(refine ahv ?_;intro v' hv')|(refine aac ?_;intro ac cc)|refine aw2 ?_|(refine ap4 ?_ ?_<;>try intro h)|apply True.intro)
         all_goals exact ⟨⟨_,atks⟩,rfl,rfl,rfl,by rw [hokf];rfl⟩
       · have hd2:decide (((fixR (some (b.drop (b.length - 4)))).1:Int)=((crcB (b.take (b.length - 4)):Nat):Int))=false:=decide_eq_false (by omega)
         have hokf:okF b=false:=by unfold okF;rw [decide_eq_false hq2];simp
         repeat' (first|(rw [hn4])|(rw [hcut3] at hv')|(rw [hd1])|(rw [hd2])|(first|((with_reducible apply z02 (id:=6) 15 [(0,true),(3,true),(1,false),(2,true),(4,true),(5,true),(6,true),(8,true),(9,true),(10,true),(11,true),(7,false),(12,false),(13,true),(14,true)] [] []);kernel_rfl;(exact atks);kernel_rfl;intro r' hl'))|(refine acl Tryz.func62 ?_;refine acr (hf1 _ b5 (hv.mono hl'.1)) ?_;rintro v' H' ⟨rfl,at2,bad2,_,_,rfl⟩;refine apl ?_)|(refine acl Tryz.func62 ?_;refine acr (hf2 _ b6 (hv.mono hl'.1)) ?_;rintro v' H' ⟨rfl,at3,bad3,_,_,rfl⟩;refine apl ?_)|(refine acl Tryz.func63 ?_;refine acr (hon _ _ hv') ?_;rintro v' H' ⟨rfl,rfl⟩;refine apl ?_)|exact xf|refine aw0 ?_|(refine ap2 ?_ ?_<;>try intro h)|refine aw1 ?_|(refine abx ?_;intro bb)|(refine abz ?_;intro bz)|(refine ahv ?_;intro v' hv')|(refine aac ?_;intro ac cc)|refine aw2 ?_|(refine ap4 ?_ ?_<;>try intro h)|apply True.intro)
         all_goals exact ⟨⟨_,atks⟩,rfl,rfl,rfl,by rw [hokf];rfl⟩
     · have hokf:okF b=false:=by unfold okF;rw [decide_eq_false hq1];simp
       have hd1:decide (((fixR (some b)).1:Int)=(b.length:Int))=false:=decide_eq_false (by omega)
       have hd2:decide ((0:Int)=1)=false:=rfl
       repeat' (first|(rw [hn4])|(rw [hcut3] at hv')|(rw [hd1])|(rw [hd2])|(first|((with_reducible apply z02 (id:=6) 15 [(0,true),(3,true),(1,false),(2,true),(4,true),(5,true),(6,true),(8,true),(9,true),(10,true),(11,true),(7,false),(12,false),(13,true),(14,true)] [] []);kernel_rfl;(exact atks);kernel_rfl;intro r' hl'))|(refine acl Tryz.func62 ?_;refine acr (hf1 _ b5 (hv.mono hl'.1)) ?_;rintro v' H' ⟨rfl,at2,bad2,_,_,rfl⟩;refine apl ?_)|(refine acl Tryz.func62 ?_;refine acr (hf2 _ b6 (hv.mono hl'.1)) ?_;rintro v' H' ⟨rfl,at3,bad3,_,_,rfl⟩;refine apl ?_)|(refine acl Tryz.func63 ?_;refine acr (hon _ _ hv') ?_;rintro v' H' ⟨rfl,rfl⟩;refine apl ?_)|exact xf|refine aw0 ?_|(refine ap2 ?_ ?_<;>try intro h)|refine aw1 ?_|(refine abx ?_;intro bb)|(refine abz ?_;intro bz)|(refine ahv ?_;intro v' hv')|(refine aac ?_;intro ac cc)|refine aw2 ?_|(refine ap4 ?_ ?_<;>try intro h)|apply True.intro)
       all_goals exact ⟨⟨_,atks⟩,rfl,rfl,rfl,by rw [hokf];rfl⟩
   · rintro t H' ⟨⟨G,hp⟩,hlen,e0,e4,e40⟩
     revert e0 e4 e40;revert t;refine z0s (n:=87) ?_;intro u0 u1 u2 u3 u4 u5 u6 u7 u8 u9 u10 u11 u12 u13 u14 u15 u16 u17 u18 u19 u20 u21 u22 u23 u24 u25 u26 u27 u28 u29 u30 u31 u32 u33 u34 u35 u36 u37 u38 u39 u40 u41 u42 u43 u44 u45 u46 u47 u48 u49 u50 u51 u52 u53 u54 u55 u56 u57 u58 u59 u60 u61 u62 u63 u64 u65 u66 u67 u68 u69 u70 u71 u72 u73 u74 u75 u76 u77 u78 u79 u80 u81 u82 u83 u84 u85 u86 e0 e4 e40;cases e0;cases e4;cases e40
     refine z01 hp ?_
     clear hp
     cases hok:okF b
     · have hpn:partsF b=none:=by unfold partsF;rw [hok];rfl
       rw [hpn] at HR
       repeat' (first|fail|refine aw0 ?_|(refine ap2 ?_ ?_<;>try intro h)|refine aw1 ?_|(refine abx ?_;intro bb)|(refine abz ?_;intro bz)|(refine ahv ?_;intro v' hv')|(refine aac ?_;intro ac cc)|refine aw2 ?_|(refine ap4 ?_ ?_<;>try intro h)|apply True.intro)
       ((with_reducible apply z00);exact res_2 rfl rfl rfl)
       exact HR.out _ _ _ [] atks ⟨rfl,rfl⟩
     · have hpf:partsF b=if (pX ((b.take (b.length - 4)).drop 4)).all (·.2) then some ((pX ((b.take (b.length - 4)).drop 4)).map (·.1)) else none:=by
        unfold partsF midF
        rw [hok,List.drop_take,show b.length - 4 - 4=b.length - 8 by omega]
        rfl
       repeat' (first|(rw [hn4])|(rw [hcut3] at hv')|((with_reducible apply z2w);rfl;(exact qcl);intro b7;(refine apk ?_))|refine aw0 ?_|(refine ap2 ?_ ?_<;>try intro h)|refine aw1 ?_|(refine abx ?_;intro bb)|(refine abz ?_;intro bz)|(refine ahv ?_;intro v' hv')|(refine aac ?_;intro ac cc)|refine aw2 ?_|(refine ap4 ?_ ?_<;>try intro h)|apply True.intro)
       have hDl:(b.take (b.length - 4)).length=b.length - 4:=by rw [List.length_take];omega
       generalize b.take (b.length - 4)=D at hv' hpf hDl
       refine z0f (A:=RowC 50 2 (.slice none 0 0) 0 []) (RowC.nil _ _) ?_
       refine z0f (A:=ByC []) rfl ?_
       refine z04 (fun gm t H' => ∃ (at_:Nat) (Z:List PartV) (a:Option Addr) (c:Nat),gm=D.length+1 - at_/\(at_<=D.length)/\(Z.map okP++pX (D.drop at_)=pX (D.drop 4))/\(Z.length<=at_)/\(∃ G,Takes [pt b7 (rrd v' at_ false),RowC 50 2 (.slice a Z.length c) Z.length (Z.flatMap encPa),ByC (Z.map bytP)] H' G)/\Sls t 87 [(7,.pointer (some ⟨b7,0,none⟩)),(8,.slice a Z.length c)]) _ ⟨4,[],none,0,rfl,by omega,rfl,Nat.zero_le _,⟨_,atks⟩,asls⟩ ?_
       rintro gm t H' ⟨at_,Z,a,c,rfl,ha,hd,hzl,⟨G,hp⟩,hs'⟩
       revert t;refine z06 ?_;iterate 85 intro uu'
       refine z01 hp ?_;clear hp
       by_cases hlt:at_<D.length
       · have hdr:D.drop at_=D.getD at_ 0::D.drop (at_+1):=by
          rw [List.drop_eq_getElem_cons hlt,List.getD_eq_getElem?_getD,List.getElem?_eq_getElem hlt];rfl
         rw [hdr] at hd
         have htx:=fun r' (h:U8S r' v' D)=>zb8 r' b7 v' D (at_+1) false 67108864 h (by omega) (by omega)
         rw [show refSt D (at_+1) false=some (D.drop (at_+1)) from rfl] at htx
         obtain ⟨tg,htg⟩ : ∃ tg,D.getD at_ 0=tg:=⟨_,rfl⟩
         rw [htg] at hd
         obtain ⟨⟨bx,st⟩,hT⟩ : ∃ T,textR 67108864 (some (D.drop (at_+1)))=T:=⟨_,rfl⟩
         rw [hT] at htx
         dsimp only at htx
         repeat' (first|((with_reducible apply z02 (id:=10) 10 [(0,true),(1,true),(2,true),(3,true),(4,true),(5,true),(6,true),(7,true),(8,true),(9,true)] [] [(b7,rrd v' at_ false)]);kernel_rfl;(exact atks);kernel_rfl;intro r' hl')|((with_reducible apply z02 (id:=11) 12 [(0,true),(1,true),(2,true),(3,true),(4,true),(5,true),(6,true),(7,true),(8,true),(9,true),(10,true),(11,false)] [(12,false)] [(b7,rrd v' at_ false)]);kernel_rfl;(exact atks);kernel_rfl;intro r' hl')|(rw [htg])|((with_reducible apply z0c (E:=50));exact z0l;(exact qcl);intro b9;(refine apk ?_))|(refine acl Tryz.func64 ?_;refine acr (htx r hv') ?_;rintro v' H' ⟨a1,c1,at2,(_ | _),rfl,hat2,hst2,rfl⟩;all_goals refine apl ?_)|(first|((with_reducible apply z0t);exact ty_el;exact z03;rfl;rfl;rfl;intro bz;(refine apk ?_))|((with_reducible apply z0y);exact ty_el;exact z03;rfl;rfl;rfl;intro bz;(refine apk ?_)))|((with_reducible apply z0b (c:= .region 16 _ _) (As:=[ByC (Z.map bytP),U8R (.slice a1 bx.length c1) bx]) (D:=ByC ((Z++[(⟨tg,.slice a1 bx.length c1,bx⟩:PartV)]).map bytP)));(exact atks);(exact fun h e=>by rw [List.map_append];exact z38 h e))|((with_reducible refine z0u ?_);(with_reducible apply z0k [(bz,.cells [.int .u8 tg.toNat,.slice a1 bx.length c1].toArray 50 (0,0))]);(exact atks);intro r' hl';(with_reducible apply z0v (news:=[.int .u8 tg.toNat,.slice a1 bx.length c1]));exact ty_el;exact z03;rfl;rfl;rfl;rfl;exact (Sl.lit (n:=1) (Lent.h1 hl') rfl (by simp [maxLen]));(exact atk);rfl;(unfold maxLen;omega);(omega);intro a' c';refine apm ?_)|exact xf|refine aw0 ?_|(refine ap2 ?_ ?_<;>try intro h)|refine aw1 ?_|(refine abx ?_;intro bb)|(refine abz ?_;intro bz)|(refine ahv ?_;intro v' hv')|(refine aac ?_;intro ac cc)|refine aw2 ?_|(refine ap4 ?_ ?_<;>try intro h)|apply True.intro)
         · have hst3:st=some (D.drop at2):=hst2
           rw [hst3] at hT
           have hinv:=z4e (most:=67108864) hT
           have hl2:D.drop (at_+1)=texts bx++D.drop at2:=by injection hinv
           have hl3:=congrArg List.length hl2
           rw [List.length_drop,List.length_append,List.length_drop] at hl3
           rw [pX_ok hT] at hd
           have hz1:(Z++[(⟨tg,.slice a1 bx.length c1,bx⟩:PartV)]).length=Z.length+1:=by simp
           exact ⟨_,by omega,at2,Z++[(⟨tg,.slice a1 bx.length c1,bx⟩:PartV)],a',c',rfl,hat2,by rw [← hd,List.map_append,List.append_assoc];rfl,by omega,⟨_,by rw [hz1,List.flatMap_append,show [(⟨tg,.slice a1 bx.length c1,bx⟩:PartV)].flatMap encPa=[.int .u8 tg.toNat,.slice a1 bx.length c1] from rfl];exact atks⟩,asls⟩
         · have hst3:st=none:=hst2
           rw [hst3] at hT
           rw [zf4 hT] at hd
           rw [hpf,← hd,if_neg (by simp)] at HR
           ((with_reducible apply z00);exact res_2 rfl rfl rfl)
           exact HR.out _ _ _ [] atks ⟨rfl,rfl⟩
       · obtain rfl:at_=D.length:=by omega
         rw [List.drop_length,zf3,List.append_nil] at hd
         rw [hpf,← hd,if_pos (zrl Z),zrm] at HR
         refine z0b (As:=[RowC 50 2 (.slice a Z.length c) Z.length (Z.flatMap encPa),ByC (Z.map bytP)]) (D:=PrtC (.slice a (Z.map pOf).length c) (Z.map pOf)) atks (fun h e=>⟨Z,rfl,by rw [List.length_map];exact e⟩) ?_
         repeat' (first|((with_reducible apply z02 (id:=10) 10 [(0,true),(1,true),(2,true),(3,true),(4,true),(5,true),(6,true),(7,true),(8,true),(9,true)] [] [(b7,rrd v' D.length false)]);kernel_rfl;(exact atks);kernel_rfl;intro r' hl')|exact xf|refine aw0 ?_|(refine ap2 ?_ ?_<;>try intro h)|refine aw1 ?_|(refine abx ?_;intro bb)|(refine abz ?_;intro bz)|(refine ahv ?_;intro v' hv')|(refine aac ?_;intro ac cc)|refine aw2 ?_|(refine ap4 ?_ ?_<;>try intro h)|apply True.intro)
         ((with_reducible apply z00);exact res_2 rfl rfl rfl)
         exact HR.out _ _ _ [PrtC _ _] atks ⟨a,c,by rw [List.length_map],rfl⟩
 · have hpn:partsF b=none:=by unfold partsF okF;rw [decide_eq_false h8];rfl
   rw [hpn] at HR
   refine ae Tryz.func20 Tryz.ntmps20 ?_
   repeat' (first|exact xf|refine aw0 ?_|(refine ap2 ?_ ?_<;>try intro h)|refine aw1 ?_|(refine abx ?_;intro bb)|(refine abz ?_;intro bz)|(refine ahv ?_;intro v' hv')|(refine aac ?_;intro ac cc)|refine aw2 ?_|(refine ap4 ?_ ?_<;>try intro h)|apply True.intro)
   ((with_reducible apply z00);exact res_2 rfl rfl rfl)
   exact HR.out _ _ _ [] atks ⟨rfl,rfl⟩
theorem zbf (r:Hp) (v:Value) (ks:List KeyF) (h : ∃ Z:List FileV,Z.map FileV.key=ks/\Files r v Z) (hs:sizeF (ks.map unK)<=2000):Tri Tryz.prog r 11 [v] [] fun w H =>
 if filesOkK ks then ∃ a c,w = .tuple #[.slice a (shardB (ks.map unK)).length c,.int .i64 0]/\H=[U8R (.slice a (shardB (ks.map unK)).length c) (shardB (ks.map unK))] else w = .tuple #[.slice none 0 0,.int .i64 2]/\H=[]:=by
 obtain ⟨Z,rfl,hZ⟩:=h
 have h1:=z7m r v Z hZ (by rw [z3j];exact hs)
 rw [z2l,z7p (z4h (Z.map FileV.key)).symm] at h1
 exact h1
theorem zrn {ds:List DocV} {b l:List UInt8} {j:Nat} (hj:j<ds.length) (hX:(cutX ds b).drop j=cutX (ds.drop j) l) (h0:0<=(ds.getD j default).size) : ∃ hi:j<(cutX ds b).length,
 ((l.length:Int)<(ds.getD j default).size->(cutX ds b)[j].2=false) /\
 ((ds.getD j default).size<=l.length->(cutX ds b)[j]=(((ds.getD j default).path,l.take (ds.getD j default).size.toNat),true)/\(cutX ds b).drop (j+1)=cutX (ds.drop (j+1)) (l.drop (ds.getD j default).size.toNat)):=by
 have hjX:j<(cutX ds b).length:=by rw [z5n];exact hj
 refine ⟨hjX,?_⟩
 rw [List.drop_eq_getElem_cons hjX,List.drop_eq_getElem_cons hj,show ds[j]=ds.getD j default by rw [List.getD_eq_getElem?_getD,List.getElem?_eq_getElem hj];rfl,cutX] at hX
 injection hX with hx hX2
 generalize ds.getD j default=d at *
 refine ⟨fun h=>by rw [hx];exact decide_eq_false (by omega),fun h=>?_⟩
 have hm:min d.size.toNat l.length=d.size.toNat:=by omega
 rw [hm] at hx hX2
 exact ⟨by rw [hx,decide_eq_true (by omega)],hX2⟩
theorem zf5 (r:Hp) (v:Value) (b:List UInt8) (hv:U8S r v b) (hb:b.length<=2000):Tri Tryz.prog r 17 [v] [] fun w H=>match openK b with
 | some ks => ∃ a c,w = .tuple #[.slice a ks.length c,.int .i64 0]/\H=[FilC (.slice a ks.length c) ks]
 | none=>w = .tuple #[.slice none 0 0,.int .i64 9]/\H=[]:=by
 refine Tri.free2 fun R HR=>?_
 have hg:=za3 r v b hv (by omega)
 cases hpf:partsF b with
 | none =>
  rw [hpf] at hg
  dsimp only at hg
  rw [z4y fun _ _ _ _ e=>by rw [hpf] at e;cases e] at HR
  dsimp only at HR
  refine ae Tryz.func17 Tryz.ntmps17 ?_
  repeat' (first|(refine acl Tryz.func20 ?_;refine acr (hg) ?_;rintro v' H' ⟨rfl,rfl⟩;refine apl ?_)|exact xf|refine aw0 ?_|(refine ap2 ?_ ?_<;>try intro h)|refine aw1 ?_|(refine abx ?_;intro bb)|(refine abz ?_;intro bz)|(refine ahv ?_;intro v' hv')|(refine aac ?_;intro ac cc)|refine aw2 ?_|(refine ap4 ?_ ?_<;>try intro h)|apply True.intro)
  ((with_reducible apply z00);exact res_2 rfl rfl rfl)
  exact HR.out _ _ _ [] Takes.all ⟨rfl,rfl⟩
 | some ps =>
  rw [hpf] at hg
  dsimp only at hg
  by_cases h4:ps.length=4
  · obtain ⟨p0,p1,p2,p3,rfl⟩ : ∃ p0 p1 p2 p3,ps=[p0,p1,p2,p3]:=by
     match ps,h4 with
     | [a,b,c,d],_=>exact ⟨a,b,c,d,rfl⟩
    have hpl:=z3z hpf
    rw [show ([p0,p1,p2,p3]:List PartP).length=4 from rfl] at hg
    have hdoc:=fun r' v' (h:U8S r' v' p0.2)=>zp6 r' v' p0.2 h (by omega)
    rw [zhd] at hdoc
    cases hgo:getOk p0.2
    · rw [hgo] at hdoc
      simp only [Bool.false_eq_true,if_false] at hdoc
      rw [show openK b=none by rw [z2j hpf,hgo];rfl] at HR
      dsimp only at HR
      refine ae Tryz.func17 Tryz.ntmps17 ?_
      repeat' (first|(refine acl Tryz.func20 ?_;refine acr (hg) ?_;rintro v' H' ⟨a1,c1,rfl,rfl⟩;refine apl ?_)|((with_reducible apply z1x (A:=PrtC (.slice a1 4 c1) [p0,p1,p2,p3]) (ι:=List PartV) (B:=fun Z=>[PrtZ (.slice a1 4 c1) Z]) (φ:=fun Z=>Z.map pOf=[p0,p1,p2,p3]));(with_reducible (exact atk));(exact fun h ⟨Z,h1,h2⟩=>⟨Z,h1,z11.2 h2⟩);(rintro Z hZ);(simp only [List.nil_append,List.cons_append]);(have hZl:Z.length=4:=(by have h:=congrArg List.length hZ;rwa [List.length_map] at h)))|((with_reducible apply z13 (c:= .region 4 _ _) (A:=PrtZ (.slice a1 4 c1) Z));(with_reducible (exact atk));intro r1 g1 hr1 hg1 hA1;obtain ⟨hP1,hP2,hP3,hP4⟩:=z4j hA1 hg1 hZ)|(refine acl Tryz.func54 ?_;refine acr (hdoc _ _ hP2) ?_;rintro v' H' ⟨rfl,rfl⟩;refine apl ?_)|exact xf|refine aw0 ?_|(refine ap2 ?_ ?_<;>try intro h)|refine aw1 ?_|(refine abx ?_;intro bb)|(refine abz ?_;intro bz)|(refine ahv ?_;intro v' hv')|(refine aac ?_;intro ac cc)|refine aw2 ?_|(refine ap4 ?_ ?_<;>try intro h)|apply True.intro)
      ((with_reducible apply z00);exact res_2 rfl rfl rfl)
      exact HR.out _ _ _ [] Takes.all ⟨rfl,rfl⟩
    · rw [hgo] at hdoc
      simp only [if_true] at hdoc
      obtain ⟨ds,hds⟩ : ∃ ds,(getDocs p0.2).1=ds:=⟨_,rfl⟩
      have hdk:docsOk ds=true:=by
       have hgo:=hgo
       unfold getOk at hgo
       rw [← hds]
       simp only [Bool.and_eq_true] at hgo
       exact hgo.2
      have hdl:=z6n (numR 4000 (some p0.2)).1 (numR 4000 (some p0.2)).2
      rw [show docsR (numR 4000 (some p0.2)).1 (numR 4000 (some p0.2)).2=getDocs p0.2 from rfl,hds] at hdl
      have hdl2:=z18 4000 (some p0.2)
      rw [show ((4000:Nat):Int)=4000 from rfl] at hdl2
      have hdl:=hdl.1
      have hsz:=za2 hdk
      rw [hds] at hdoc
      obtain ⟨X,hX0⟩ : ∃ X,cutX ds p1.2=X:=⟨_,rfl⟩
      have hXc:cutsK p0.2 p1.2=X.map (·.1):=by rw [← hX0,← hds];rfl
      have hXw:wholeK p0.2 p1.2=X.all (·.2):=by rw [← hX0,← hds];rfl
      have hXl:X.length=ds.length:=by rw [← hX0,z5n]
      have hbad:X.all (·.2)=false->openK b=none:=fun h=>by rw [z2j hpf,hXw,h,hgo];rfl
      have hcz:=z7r (m:=p1.2) hgo
      have ho:=z2j hpf
      rw [hXc] at hcz ho
      rw [hXw,hgo,Bool.true_and] at ho
      refine ae Tryz.func17 Tryz.ntmps17 ?_
      refine z0f (A:=RowC 45 2 (.slice none 0 0) 0 []) (RowC.nil _ _) ?_
      refine z0f (A:=ByC []) rfl ?_
      repeat' (first|(refine acl Tryz.func20 ?_;refine acr (hg) ?_;rintro v' H' ⟨a1,c1,rfl,rfl⟩;refine apl ?_)|((with_reducible apply z1x (A:=PrtC (.slice a1 4 c1) [p0,p1,p2,p3]) (ι:=List PartV) (B:=fun Z=>[PrtZ (.slice a1 4 c1) Z]) (φ:=fun Z=>Z.map pOf=[p0,p1,p2,p3]));(with_reducible (exact atk));(exact fun h ⟨Z,h1,h2⟩=>⟨Z,h1,z11.2 h2⟩);(rintro Z hZ);(simp only [List.nil_append,List.cons_append]);(have hZl:Z.length=4:=(by have h:=congrArg List.length hZ;rwa [List.length_map] at h)))|((with_reducible apply z13 (c:= .region 4 _ _) (A:=PrtZ (.slice a1 4 c1) Z));(with_reducible (exact atk));intro r1 g1 hr1 hg1 hA1;obtain ⟨hP1,hP2,hP3,hP4⟩:=z4j hA1 hg1 hZ)|(refine acl Tryz.func54 ?_;refine acr (hdoc _ _ hP2) ?_;rintro v' H' ⟨a2,c2,rfl,rfl⟩;refine apl ?_)|exact xf|refine aw0 ?_|(refine ap2 ?_ ?_<;>try intro h)|refine aw1 ?_|(refine abx ?_;intro bb)|(refine abz ?_;intro bz)|(refine ahv ?_;intro v' hv')|(refine aac ?_;intro ac cc)|refine aw2 ?_|(refine ap4 ?_ ?_<;>try intro h)|apply True.intro)
      refine z13 (A:=PrtZ (.slice a1 4 c1) Z) atk fun r2 g2 hr2 hg2 hA2=>?_
      refine z13 (A:=DocR (.slice a2 ds.length c2) ds) atk fun r3 g3 hr3 hg3 hA3=>?_
      obtain ⟨hQ1,hQ2,hQ3,hQ4⟩:=z4j hA2 hg2 hZ
      have hQ1:=hQ1.mono hr3
      have hQ3:=hQ3.mono hr3
      have hD:Els r3 4 encD (.slice a2 ds.length c2) ds:=⟨fun _=>rfl,hA3.sl hg3⟩
      obtain ⟨u1,hu1⟩ : ∃ u,(Z.getD 1 default).val=u:=⟨_,rfl⟩
      have hu2:(Z.getD (Int.toNat 1) default).val=u1:=hu1
      rw [hu1] at hQ3
      clear hQ2 hQ4 hA3 hA2
      refine z04 (fun gm t H' => ∃ (j q:Nat) (W:List FileV) (a:Option Addr) (c:Nat),gm=ds.length+1 - j/\(j<=ds.length)/\(q<=p1.2.length)/\(X.drop j=cutX (ds.drop j) (p1.2.drop q))/\(∀ x∈X.take j,x.2=true)/\(W.map FileV.key=(X.take j).map (·.1))/\(∃ G,Takes [RowC 45 2 (.slice a W.length c) W.length (W.flatMap encF),ByC (W.map bytF)] H' G)/\Sls t 100 [(0,v),(4,.slice a1 4 c1),(6,.slice a2 ds.length c2),(8,.slice a W.length c),(9,.int .i64 q),(10,.int .i64 j)]) _ ⟨0,0,[],none,0,rfl,Nat.zero_le _,Nat.zero_le _,hX0.symm,(fun x hx=>by simp at hx),rfl,⟨_,atks⟩,asls⟩ ?_
      rintro gm t H' ⟨j,q,W,a,c,rfl,hj,hq,hX,hall,hW,⟨G,hp⟩,hs'⟩
      revert t;refine z06 ?_;iterate 94 intro uu'
      refine z01 hp ?_;clear hp
      have hWl:W.length=j:=by have h:=congrArg List.length hW;rw [List.length_map,List.length_map,List.length_take] at h;omega
      by_cases hlt:j<ds.length
      · have hsz:=hsz _ (z0g hlt)
        rw [← hX0] at hX
        obtain ⟨hi,hA,hB⟩:=zrn hlt hX hsz.1
        rw [List.length_drop] at hA hB
        obtain ⟨d,hd⟩ : ∃ d,ds.getD j default=d:=⟨_,rfl⟩
        rw [hd] at hsz hA hB
        have hde:encD d=[.string (bs d.path),.string (bs d.lang),.int .u32 d.sum,.int .i64 d.size]:=rfl
        by_cases hle:d.size<=((p1.2.length - q:Nat):Int)
        · obtain ⟨hB1,hB2⟩:=hB hle
          obtain ⟨n,hn⟩ : ∃ n:Nat,d.size=n:=⟨d.size.toNat,by omega⟩
          rw [hn] at hle hB1 hB2 hsz
          rw [Int.toNat_natCast] at hB1 hB2
          obtain ⟨D,hDd⟩ : ∃ D,(p1.2.drop q).take n=D:=⟨_,rfl⟩
          have hDl:D.length=n:=by rw [← hDd,List.length_take,List.length_drop];omega
          have hcut:List.take (((q:Int)+(n:Int)).toNat - ((q:Nat):Int).toNat) (List.drop ((q:Nat):Int).toNat p1.2)=D:=by
           rw [Int.toNat_natCast,show ((q:Int)+(n:Int)).toNat - q=n by omega,hDd]
          rw [hDd] at hB1
          have htk:X.take (j+1)=X.take j++[((d.path,D),true)]:=by rw [← hX0,List.take_succ_eq_append_getElem hi,hB1]
          rw [hX0,List.drop_drop] at hB2
          clear hA hB hB1
          obtain ⟨dp,dl,dm,dz⟩:=d
          dsimp only at hn hde htk
          subst hn
          have hdz:(ds.getD j default).size=(n:Int):=by rw [hd]
          have hdp:(ds.getD j default).path=dp:=by rw [hd]
          clear hd
          repeat' (first|(rw [hdz])|(rw [hdp])|(rw [hu2])|(rw [hcut] at hv')|((with_reducible apply z02 (id:=12) 13 [(0,true),(1,true),(2,true),(3,true),(4,true),(5,true),(6,true),(7,true),(8,true),(9,true),(10,true),(11,true),(12,true)] [] []);kernel_rfl;(exact atks);kernel_rfl;intro r' hl')|((with_reducible apply z02 (id:=14) 24 [(0,true),(1,true),(2,true),(3,true),(4,true),(5,true),(7,true),(8,true),(9,true),(10,true),(11,true),(12,true),(13,true),(14,true),(15,true),(16,true),(17,true),(18,true),(19,true),(6,false),(20,false),(21,true),(22,false),(23,false)] [(24,false)] []);kernel_rfl;(exact atks);kernel_rfl;intro r' hl')|((with_reducible apply z3t);exact ty_el;exact z03;intro bz0;(refine apk ?_))|((with_reducible refine z0u ?_);(with_reducible apply z0v (news:=u8s D));exact ty_el;exact z03;rfl;rfl;rfl;rfl;exact hv';(exact atk);exact (z1y _);(unfold maxLen;omega);(omega);intro a7 c7;refine apm ?_)|(simp only [Nat.zero_add])|(first|((with_reducible apply z0t);exact ty_el;exact z03;rfl;rfl;rfl;intro bz;(refine apk ?_))|((with_reducible apply z0y);exact ty_el;exact z03;rfl;rfl;rfl;intro bz;(refine apk ?_)))|((with_reducible refine z0u ?_);(with_reducible apply z0k [(bz,.cells [.string (bs dp),.slice a7 D.length c7].toArray 45 (0,0))]);(exact atks);intro r9 hl9;(with_reducible apply z0v (news:=[.string (bs dp),.slice a7 D.length c7]));exact ty_el;exact z03;rfl;rfl;rfl;rfl;exact (Sl.lit (n:=1) (Lent.h1 hl9) rfl (by simp [maxLen]));(exact atk);rfl;(unfold maxLen;omega);(omega);intro a' c';refine apm ?_)|((with_reducible apply z0b (c:= .region 15 _ _) (As:=[ByC (W.map bytF),U8R (.slice a7 D.length c7) D]) (D:=ByC ((W++[(⟨dp,.slice a7 D.length c7,D⟩:FileV)]).map bytF)));((exact atks));(exact fun h e=>by rw [List.map_append];exact z38 h e))|exact xf|refine aw0 ?_|(refine ap2 ?_ ?_<;>try intro h)|refine aw1 ?_|(refine abx ?_;intro bb)|(refine abz ?_;intro bz)|(refine ahv ?_;intro v' hv')|(refine aac ?_;intro ac cc)|refine aw2 ?_|(refine ap4 ?_ ?_<;>try intro h)|apply True.intro)
          have hnx:(W++[(⟨dp,.slice a7 D.length c7,D⟩:FileV)]).map FileV.key=(X.take (j+1)).map (·.1):=by rw [htk,List.map_append,List.map_append,hW];rfl
          have hwn:(W++[(⟨dp,.slice a7 D.length c7,D⟩:FileV)]).length=W.length+1:=by rw [List.length_append];rfl
          have hal : ∀ x∈X.take (j+1),x.2=true:=fun x hx=>by
           rw [htk] at hx
           rcases List.mem_append.1 hx with h|h
           · exact hall x h
           · obtain rfl:=List.mem_singleton.1 h;rfl
          exact ⟨_,by omega,j+1,q+n,W++[(⟨dp,.slice a7 D.length c7,D⟩:FileV)],a',c',rfl,by omega,by omega,hB2,hal,hnx,⟨_,by rw [hwn,List.flatMap_append];exact atks⟩,asls⟩
        · have hf:=hA (by omega)
          have hxm:(cutX ds p1.2)[j]∈X:=hX0 ▸ List.getElem_mem hi
          have hn:=hbad (by
           cases h:X.all (·.2)
           · rfl
           · have:=List.all_eq_true.1 h _ hxm;rw [hf] at this;cases this)
          rw [hn] at HR
          dsimp only at HR
          repeat' (first|(rw [hd])|(rw [hu2])|((with_reducible apply z02 (id:=12) 13 [(0,true),(1,true),(2,true),(3,true),(4,true),(5,true),(6,true),(7,true),(8,true),(9,true),(10,true),(11,true),(12,true)] [] []);kernel_rfl;(exact atks);kernel_rfl;intro r' hl')|exact xf|refine aw0 ?_|(refine ap2 ?_ ?_<;>try intro h)|refine aw1 ?_|(refine abx ?_;intro bb)|(refine abz ?_;intro bz)|(refine ahv ?_;intro v' hv')|(refine aac ?_;intro ac cc)|refine aw2 ?_|(refine ap4 ?_ ?_<;>try intro h)|apply True.intro)
          ((with_reducible apply z00);exact res_2 rfl rfl rfl)
          exact HR.out _ _ _ [] Takes.all ⟨rfl,rfl⟩
      · obtain rfl:j=ds.length:=by omega
        rw [show ds.length=X.length from hXl.symm,List.take_length] at hall hW
        have hwl:X.all (·.2)=true:=List.all_eq_true.2 hall
        rw [hwl,Bool.true_and] at ho
        refine z0b (As:=[RowC 45 2 (.slice a W.length c) W.length (W.flatMap encF),ByC (W.map bytF)]) (D:=FilC (.slice a W.length c) (X.map (·.1))) atks (fun h e=>⟨W,hW,e⟩) ?_
        have hmk:=fun r' (h : ∃ Z:List FileV,Z.map FileV.key=X.map (·.1)/\Files r' (.slice a W.length c) Z)=>zbf r' _ _ h (by omega)
        have hKl:(X.map (·.1)).length=W.length:=by rw [← hW,List.length_map]
        generalize X.map (·.1)=ks at ho hmk hKl ⊢
        cases hok:filesOkK ks
        · rw [hok] at ho hmk
          simp only [Bool.false_and,Bool.false_eq_true,if_false] at ho hmk
          rw [ho] at HR
          dsimp only at HR
          repeat' (first|((with_reducible refine z07 11 ?_);(with_reducible apply z05 (A:=FilC (.slice a W.length c) ks));(exact atk);intro r5 g5 hr5 hg5 hA5;(refine acl Tryz.func11 ?_;refine acr (hmk r5 (z1f hA5 hg5)) ?_;rintro v' H' ⟨rfl,rfl⟩;refine apl ?_))|exact xf|refine aw0 ?_|(refine ap2 ?_ ?_<;>try intro h)|refine aw1 ?_|(refine abx ?_;intro bb)|(refine abz ?_;intro bz)|(refine ahv ?_;intro v' hv')|(refine aac ?_;intro ac cc)|refine aw2 ?_|(refine ap4 ?_ ?_<;>try intro h)|apply True.intro)
          ((with_reducible apply z00);exact res_2 rfl rfl rfl)
          exact HR.out _ _ _ [] Takes.all ⟨rfl,rfl⟩
        · rw [hok] at ho hmk
          simp only [Bool.true_and,if_true] at ho hmk
          generalize shardB (ks.map unK)=B at hmk ho
          by_cases heq:B=b
          · subst heq
            rw [decide_eq_true rfl,if_pos rfl] at ho
            rw [ho] at HR
            dsimp only at HR
            repeat' (first|((with_reducible refine z07 11 ?_);(with_reducible apply z05 (A:=FilC (.slice a W.length c) ks));(exact atk);intro r5 g5 hr5 hg5 hA5;(refine acl Tryz.func11 ?_;refine acr (hmk r5 (z1f hA5 hg5)) ?_;rintro v' H' ⟨a9,c9,rfl,rfl⟩;refine apl ?_))|((with_reducible apply zdo);exact ty_el;kernel_rfl;kernel_rfl;rfl;(exact atk);(refine apk ?_))|((with_reducible apply z9b);exact ty_el;kernel_rfl;kernel_rfl;rfl;exact hv;(refine apk ?_))|exact xf|refine aw0 ?_|(refine ap2 ?_ ?_<;>try intro h)|refine aw1 ?_|(refine abx ?_;intro bb)|(refine abz ?_;intro bz)|(refine ahv ?_;intro v' hv')|(refine aac ?_;intro ac cc)|refine aw2 ?_|(refine ap4 ?_ ?_<;>try intro h)|apply True.intro)
            ((with_reducible apply z00);exact res_2 rfl rfl rfl)
            exact HR.out _ _ _ [FilC _ _] atks ⟨a,c,by rw [hKl],by rw [hKl]⟩
          · rw [decide_eq_false heq] at ho
            simp only [Bool.false_eq_true,if_false] at ho
            rw [ho] at HR
            dsimp only at HR
            repeat' (first|((with_reducible refine z07 11 ?_);(with_reducible apply z05 (A:=FilC (.slice a W.length c) ks));(exact atk);intro r5 g5 hr5 hg5 hA5;(refine acl Tryz.func11 ?_;refine acr (hmk r5 (z1f hA5 hg5)) ?_;rintro v' H' ⟨a9,c9,rfl,rfl⟩;refine apl ?_))|((with_reducible apply zdo);exact ty_el;kernel_rfl;kernel_rfl;rfl;(exact atk);(refine apk ?_))|((with_reducible apply z9b);exact ty_el;kernel_rfl;kernel_rfl;rfl;exact hv;(refine apk ?_))|exact xf|refine aw0 ?_|(refine ap2 ?_ ?_<;>try intro h)|refine aw1 ?_|(refine abx ?_;intro bb)|(refine abz ?_;intro bz)|(refine ahv ?_;intro v' hv')|(refine aac ?_;intro ac cc)|refine aw2 ?_|(refine ap4 ?_ ?_<;>try intro h)|apply True.intro)
            ((with_reducible apply z00);exact res_2 rfl rfl rfl)
            exact HR.out _ _ _ [] Takes.all ⟨rfl,rfl⟩
  · rw [z4y fun _ _ _ _ e=>by rw [hpf] at e;cases e;exact h4 rfl] at HR
    dsimp only at HR
    refine ae Tryz.func17 Tryz.ntmps17 ?_
    repeat' (first|(refine acl Tryz.func20 ?_;refine acr (hg) ?_;rintro v' H' ⟨a1,c1,rfl,rfl⟩;refine apl ?_)|exact xf|refine aw0 ?_|(refine ap2 ?_ ?_<;>try intro h)|refine aw1 ?_|(refine abx ?_;intro bb)|(refine abz ?_;intro bz)|(refine ahv ?_;intro v' hv')|(refine aac ?_;intro ac cc)|refine aw2 ?_|(refine ap4 ?_ ?_<;>try intro h)|apply True.intro)
    ((with_reducible apply z00);exact res_2 rfl rfl rfl)
    exact HR.out _ _ _ [] Takes.all ⟨rfl,rfl⟩
end Go.Proofs.YtohpeoakdgckfaaGreat
