/- mudlarkref03.Get: its contract. -/
import Derived.Test.YtohpeoakdgckfaaGreatFw
import Derived.Test.YtohpeoakdgckfaaGreatRl
set_option maxHeartbeats 4000000
set_option maxRecDepth 10000
namespace Go.Proofs.YtohpeoakdgckfaaGreat
open Go.RowKit Sx
def okP (z:PartV):PartP × Bool:=(pOf z,true)
theorem all_okP (Z:List PartV):(Z.map okP).all (·.2)=true:=by
 rw [List.all_map];simp [okP]
theorem okP_fst (Z:List PartV):(Z.map okP).map (·.1)=Z.map pOf:=by rw [List.map_map];rfl
theorem rfget_any (r:Hp) (v:Value) (b:List UInt8) (hv:U8S r v b) (hb:b.length<=1000000):Tri Tryz.prog r 20 [v] [] fun w H=>match partsF b with
 | some ps => ∃ a c,w = .tuple #[.slice a ps.length c,.int .i64 0]/\H=[PrtC (.slice a ps.length c) ps]
 | none=>w = .tuple #[.slice none 0 0,.int .i64 9]/\H=[]:=by
 refine Tri.free2 fun R HR=>?_
 have hx1:=fixR_lt (some b)
 have hx2:=fixR_lt (some (b.drop (b.length - 4)))
 by_cases h8:8<=b.length
 · have hcut3:List.take (((b.length - 4:Nat):Int).toNat - Int.toNat 0) (List.drop (Int.toNat 0) b)=b.take (b.length - 4):=rfl
   have hf1:=fun r' g (h:U8S r' v b)=>rfixR_any r' g v b 0 false h (by omega) (Nat.zero_le _)
   have hf2:=fun r' g (h:U8S r' v b)=>rfixR_any r' g v b (b.length - 4) false h (by omega) (by omega)
   rw [show refSt b 0 false=some b from rfl] at hf1
   rw [show refSt b (b.length - 4) false=some (b.drop (b.length - 4)) from rfl] at hf2
   refine ae Tryz.func20 Tryz.ntmps20 ?_
   have hn4:((b.length:Nat):Int) - 4=((b.length - 4:Nat):Int):=by omega
   have hon : ∀ r' v',U8S r' v' (b.take (b.length - 4))->Tri Tryz.prog r' 63 [v'] [] fun w H=>w = .int .u32 (crcB (b.take (b.length - 4)):Nat)/\H=[]:=fun r' v' h=>rone_any r' v' _ _ h
   repeat' (first|((with_reducible apply kx_box);rfl;(exact qcl);intro bb;(refine apk ?_))|(rw [hn4])|((with_reducible apply sw_midM (c1:= .region 6 _ _) (I:=fun t' H'=>(∃ G,Takes [] H' G)/\(t'.length=87/\t'[0]?=some (v)/\t'[4]?=some (.int .i64 b.length)/\t'[40]?=some (.bool (!okF b))))))|refine aw0 ?_|(refine ap2 ?_ ?_<;>try intro h)|refine aw1 ?_|(refine abx ?_;intro bb)|(refine abz ?_;intro bz)|(refine ahv ?_;intro v' hv')|(refine aac ?_;intro ac cc)|refine aw2 ?_|(refine ap4 ?_ ?_<;>try intro h)|apply True.intro)
   · revert bb
     revert bb
     intro b5 b6
     by_cases hq1:(fixR (some b)).1=b.length
     · have hd1:decide (((fixR (some b)).1:Int)=(b.length:Int))=true:=decide_eq_true (by omega)
       by_cases hq2:(fixR (some (b.drop (b.length - 4)))).1=crcB (b.take (b.length - 4))
       · have hd2:decide (((fixR (some (b.drop (b.length - 4)))).1:Int)=((crcB (b.take (b.length - 4)):Nat):Int))=true:=decide_eq_true (by omega)
         have hokf:okF b=true:=by unfold okF;rw [decide_eq_true h8,decide_eq_true hq1,decide_eq_true hq2];rfl
         repeat' (first|(rw [hn4])|(rw [hcut3] at hv')|(rw [hd1])|(rw [hd2])|(first|((with_reducible apply sw_draw (id:=6) 15 [(0,true),(3,true),(1,false),(2,true),(4,true),(5,true),(6,true),(8,true),(9,true),(10,true),(11,true),(7,false),(12,false),(13,true),(14,true)] [] []);kernel_rfl;(exact atks);kernel_rfl;intro r' hl'))|(refine acl Tryz.func62 ?_;refine acr (hf1 _ b5 (hv.mono hl'.1)) ?_;rintro v' H' ⟨rfl,at2,bad2,_,_,rfl⟩;refine apl ?_)|(refine acl Tryz.func62 ?_;refine acr (hf2 _ b6 (hv.mono hl'.1)) ?_;rintro v' H' ⟨rfl,at3,bad3,_,_,rfl⟩;refine apl ?_)|(refine acl Tryz.func63 ?_;refine acr (hon _ _ hv') ?_;rintro v' H' ⟨rfl,rfl⟩;refine apl ?_)|exact xf|refine aw0 ?_|(refine ap2 ?_ ?_<;>try intro h)|refine aw1 ?_|(refine abx ?_;intro bb)|(refine abz ?_;intro bz)|(refine ahv ?_;intro v' hv')|(refine aac ?_;intro ac cc)|refine aw2 ?_|(refine ap4 ?_ ?_<;>try intro h)|apply True.intro)
         all_goals exact ⟨⟨_,atks⟩,rfl,rfl,rfl,by rw [hokf];rfl⟩
       · have hd2:decide (((fixR (some (b.drop (b.length - 4)))).1:Int)=((crcB (b.take (b.length - 4)):Nat):Int))=false:=decide_eq_false (by omega)
         have hokf:okF b=false:=by unfold okF;rw [decide_eq_false hq2];simp
         repeat' (first|(rw [hn4])|(rw [hcut3] at hv')|(rw [hd1])|(rw [hd2])|(first|((with_reducible apply sw_draw (id:=6) 15 [(0,true),(3,true),(1,false),(2,true),(4,true),(5,true),(6,true),(8,true),(9,true),(10,true),(11,true),(7,false),(12,false),(13,true),(14,true)] [] []);kernel_rfl;(exact atks);kernel_rfl;intro r' hl'))|(refine acl Tryz.func62 ?_;refine acr (hf1 _ b5 (hv.mono hl'.1)) ?_;rintro v' H' ⟨rfl,at2,bad2,_,_,rfl⟩;refine apl ?_)|(refine acl Tryz.func62 ?_;refine acr (hf2 _ b6 (hv.mono hl'.1)) ?_;rintro v' H' ⟨rfl,at3,bad3,_,_,rfl⟩;refine apl ?_)|(refine acl Tryz.func63 ?_;refine acr (hon _ _ hv') ?_;rintro v' H' ⟨rfl,rfl⟩;refine apl ?_)|exact xf|refine aw0 ?_|(refine ap2 ?_ ?_<;>try intro h)|refine aw1 ?_|(refine abx ?_;intro bb)|(refine abz ?_;intro bz)|(refine ahv ?_;intro v' hv')|(refine aac ?_;intro ac cc)|refine aw2 ?_|(refine ap4 ?_ ?_<;>try intro h)|apply True.intro)
         all_goals exact ⟨⟨_,atks⟩,rfl,rfl,rfl,by rw [hokf];rfl⟩
     · have hokf:okF b=false:=by unfold okF;rw [decide_eq_false hq1];simp
       have hd1:decide (((fixR (some b)).1:Int)=(b.length:Int))=false:=decide_eq_false (by omega)
       have hd2:decide ((0:Int)=1)=false:=rfl
       repeat' (first|(rw [hn4])|(rw [hcut3] at hv')|(rw [hd1])|(rw [hd2])|(first|((with_reducible apply sw_draw (id:=6) 15 [(0,true),(3,true),(1,false),(2,true),(4,true),(5,true),(6,true),(8,true),(9,true),(10,true),(11,true),(7,false),(12,false),(13,true),(14,true)] [] []);kernel_rfl;(exact atks);kernel_rfl;intro r' hl'))|(refine acl Tryz.func62 ?_;refine acr (hf1 _ b5 (hv.mono hl'.1)) ?_;rintro v' H' ⟨rfl,at2,bad2,_,_,rfl⟩;refine apl ?_)|(refine acl Tryz.func62 ?_;refine acr (hf2 _ b6 (hv.mono hl'.1)) ?_;rintro v' H' ⟨rfl,at3,bad3,_,_,rfl⟩;refine apl ?_)|(refine acl Tryz.func63 ?_;refine acr (hon _ _ hv') ?_;rintro v' H' ⟨rfl,rfl⟩;refine apl ?_)|exact xf|refine aw0 ?_|(refine ap2 ?_ ?_<;>try intro h)|refine aw1 ?_|(refine abx ?_;intro bb)|(refine abz ?_;intro bz)|(refine ahv ?_;intro v' hv')|(refine aac ?_;intro ac cc)|refine aw2 ?_|(refine ap4 ?_ ?_<;>try intro h)|apply True.intro)
       all_goals exact ⟨⟨_,atks⟩,rfl,rfl,rfl,by rw [hokf];rfl⟩
   · rintro t H' ⟨⟨G,hp⟩,hlen,e0,e4,e40⟩
     revert e0 e4 e40;revert t;refine all_len (n:=87) ?_;intro u0 u1 u2 u3 u4 u5 u6 u7 u8 u9 u10 u11 u12 u13 u14 u15 u16 u17 u18 u19 u20 u21 u22 u23 u24 u25 u26 u27 u28 u29 u30 u31 u32 u33 u34 u35 u36 u37 u38 u39 u40 u41 u42 u43 u44 u45 u46 u47 u48 u49 u50 u51 u52 u53 u54 u55 u56 u57 u58 u59 u60 u61 u62 u63 u64 u65 u66 u67 u68 u69 u70 u71 u72 u73 u74 u75 u76 u77 u78 u79 u80 u81 u82 u83 u84 u85 u86 e0 e4 e40;cases e0;cases e4;cases e40
     refine sw_takeG hp ?_
     clear hp
     cases hok:okF b
     · have hpn:partsF b=none:=by unfold partsF;rw [hok];rfl
       rw [hpn] at HR
       repeat' (first|fail|refine aw0 ?_|(refine ap2 ?_ ?_<;>try intro h)|refine aw1 ?_|(refine abx ?_;intro bb)|(refine abz ?_;intro bz)|(refine ahv ?_;intro v' hv')|(refine aac ?_;intro ac cc)|refine aw2 ?_|(refine ap4 ?_ ?_<;>try intro h)|apply True.intro)
       ((with_reducible apply fp_ret);exact res_2 rfl rfl rfl)
       exact HR.out _ _ _ [] atks ⟨rfl,rfl⟩
     · have hpf:partsF b=if (pX ((b.take (b.length - 4)).drop 4)).all (·.2) then some ((pX ((b.take (b.length - 4)).drop 4)).map (·.1)) else none:=by
        unfold partsF midF
        rw [hok,List.drop_take,show b.length - 4 - 4=b.length - 8 by omega]
        rfl
       repeat' (first|(rw [hn4])|(rw [hcut3] at hv')|((with_reducible apply kx_box);rfl;(exact qcl);intro b7;(refine apk ?_))|refine aw0 ?_|(refine ap2 ?_ ?_<;>try intro h)|refine aw1 ?_|(refine abx ?_;intro bb)|(refine abz ?_;intro bz)|(refine ahv ?_;intro v' hv')|(refine aac ?_;intro ac cc)|refine aw2 ?_|(refine ap4 ?_ ?_<;>try intro h)|apply True.intro)
       have hDl:(b.take (b.length - 4)).length=b.length - 4:=by rw [List.length_take];omega
       generalize b.take (b.length - 4)=D at hv' hpf hDl
       refine sw_put (A:=RowC 50 2 (.slice none 0 0) 0 []) (RowC.nil _ _) ?_
       refine sw_put (A:=ByC []) rfl ?_
       refine sw_loop (fun gm t H' => ∃ (at_:Nat) (Z:List PartV) (a:Option Addr) (c:Nat),gm=D.length+1 - at_/\(at_<=D.length)/\(Z.map okP++pX (D.drop at_)=pX (D.drop 4))/\(Z.length<=at_)/\(∃ G,Takes [pt b7 (rrd v' at_ false),RowC 50 2 (.slice a Z.length c) Z.length (Z.flatMap encPa),ByC (Z.map bytP)] H' G)/\Sls t 87 [(7,.pointer (some ⟨b7,0,none⟩)),(8,.slice a Z.length c)]) _ ⟨4,[],none,0,rfl,by omega,rfl,Nat.zero_le _,⟨_,atks⟩,asls⟩ ?_
       rintro gm t H' ⟨at_,Z,a,c,rfl,ha,hd,hzl,⟨G,hp⟩,hs'⟩
       revert t;refine sls_all ?_;iterate 85 intro uu'
       refine sw_takeG hp ?_;clear hp
       by_cases hlt:at_<D.length
       · have hdr:D.drop at_=D.getD at_ 0::D.drop (at_+1):=by
          rw [List.drop_eq_getElem_cons hlt,List.getD_eq_getElem?_getD,List.getElem?_eq_getElem hlt];rfl
         rw [hdr] at hd
         have htx:=fun r' (h:U8S r' v' D)=>rtextR_any r' b7 v' D (at_+1) false 67108864 h (by omega) (by omega)
         rw [show refSt D (at_+1) false=some (D.drop (at_+1)) from rfl] at htx
         obtain ⟨tg,htg⟩ : ∃ tg,D.getD at_ 0=tg:=⟨_,rfl⟩
         rw [htg] at hd
         obtain ⟨⟨bx,st⟩,hT⟩ : ∃ T,textR 67108864 (some (D.drop (at_+1)))=T:=⟨_,rfl⟩
         rw [hT] at htx
         dsimp only at htx
         repeat' (first|((with_reducible apply sw_draw (id:=10) 10 [(0,true),(1,true),(2,true),(3,true),(4,true),(5,true),(6,true),(7,true),(8,true),(9,true)] [] [(b7,rrd v' at_ false)]);kernel_rfl;(exact atks);kernel_rfl;intro r' hl')|((with_reducible apply sw_draw (id:=11) 12 [(0,true),(1,true),(2,true),(3,true),(4,true),(5,true),(6,true),(7,true),(8,true),(9,true),(10,true),(11,false)] [(12,false)] [(b7,rrd v' at_ false)]);kernel_rfl;(exact atks);kernel_rfl;intro r' hl')|(rw [htg])|((with_reducible apply kx_alloc (E:=50));exact ty_zero;(exact qcl);intro b9;(refine apk ?_))|(refine acl Tryz.func64 ?_;refine acr (htx r hv') ?_;rintro v' H' ⟨a1,c1,at2,(_ | _),rfl,hat2,hst2,rfl⟩;all_goals refine apl ?_)|(first|((with_reducible apply kx_bs1);exact ty_el;exact ty_inf;rfl;rfl;rfl;intro bz;(refine apk ?_))|((with_reducible apply kx_bsN);exact ty_el;exact ty_inf;rfl;rfl;rfl;intro bz;(refine apk ?_)))|((with_reducible apply sw_joinA (c:= .region 16 _ _) (As:=[ByC (Z.map bytP),U8R (.slice a1 bx.length c1) bx]) (D:=ByC ((Z++[(⟨tg,.slice a1 bx.length c1,bx⟩:PartV)]).map bytP)));(exact atks);(exact fun h e=>by rw [List.map_append];exact byC_snoc h e))|((with_reducible refine swo_isApp ?_);(with_reducible apply kx_lend [(bz,.cells [.int .u8 tg.toNat,.slice a1 bx.length c1].toArray 50 (0,0))]);(exact atks);intro r' hl';(with_reducible apply kx_appS (news:=[.int .u8 tg.toNat,.slice a1 bx.length c1]));exact ty_el;exact ty_inf;rfl;rfl;rfl;rfl;exact (Sl.lit (n:=1) (Lent.h1 hl') rfl (by simp [maxLen]));(exact atk);rfl;(unfold maxLen;omega);(omega);intro a' c';refine apm ?_)|exact xf|refine aw0 ?_|(refine ap2 ?_ ?_<;>try intro h)|refine aw1 ?_|(refine abx ?_;intro bb)|(refine abz ?_;intro bz)|(refine ahv ?_;intro v' hv')|(refine aac ?_;intro ac cc)|refine aw2 ?_|(refine ap4 ?_ ?_<;>try intro h)|apply True.intro)
         · have hst3:st=some (D.drop at2):=hst2
           rw [hst3] at hT
           have hinv:=textR_inv (most:=67108864) hT
           have hl2:D.drop (at_+1)=texts bx++D.drop at2:=by injection hinv
           have hl3:=congrArg List.length hl2
           rw [List.length_drop,List.length_append,List.length_drop] at hl3
           rw [pX_ok hT] at hd
           have hz1:(Z++[(⟨tg,.slice a1 bx.length c1,bx⟩:PartV)]).length=Z.length+1:=by simp
           exact ⟨_,by omega,at2,Z++[(⟨tg,.slice a1 bx.length c1,bx⟩:PartV)],a',c',rfl,hat2,by rw [← hd,List.map_append,List.append_assoc];rfl,by omega,⟨_,by rw [hz1,List.flatMap_append,show [(⟨tg,.slice a1 bx.length c1,bx⟩:PartV)].flatMap encPa=[.int .u8 tg.toNat,.slice a1 bx.length c1] from rfl];exact atks⟩,asls⟩
         · have hst3:st=none:=hst2
           rw [hst3] at hT
           rw [pX_bad hT] at hd
           rw [hpf,← hd,if_neg (by simp)] at HR
           ((with_reducible apply fp_ret);exact res_2 rfl rfl rfl)
           exact HR.out _ _ _ [] atks ⟨rfl,rfl⟩
       · obtain rfl:at_=D.length:=by omega
         rw [List.drop_length,pX_nil,List.append_nil] at hd
         rw [hpf,← hd,if_pos (all_okP Z),okP_fst] at HR
         refine sw_joinA (As:=[RowC 50 2 (.slice a Z.length c) Z.length (Z.flatMap encPa),ByC (Z.map bytP)]) (D:=PrtC (.slice a (Z.map pOf).length c) (Z.map pOf)) atks (fun h e=>⟨Z,rfl,by rw [List.length_map];exact e⟩) ?_
         repeat' (first|((with_reducible apply sw_draw (id:=10) 10 [(0,true),(1,true),(2,true),(3,true),(4,true),(5,true),(6,true),(7,true),(8,true),(9,true)] [] [(b7,rrd v' D.length false)]);kernel_rfl;(exact atks);kernel_rfl;intro r' hl')|exact xf|refine aw0 ?_|(refine ap2 ?_ ?_<;>try intro h)|refine aw1 ?_|(refine abx ?_;intro bb)|(refine abz ?_;intro bz)|(refine ahv ?_;intro v' hv')|(refine aac ?_;intro ac cc)|refine aw2 ?_|(refine ap4 ?_ ?_<;>try intro h)|apply True.intro)
         ((with_reducible apply fp_ret);exact res_2 rfl rfl rfl)
         exact HR.out _ _ _ [PrtC _ _] atks ⟨a,c,by rw [List.length_map],rfl⟩
 · have hpn:partsF b=none:=by unfold partsF okF;rw [decide_eq_false h8];rfl
   rw [hpn] at HR
   refine ae Tryz.func20 Tryz.ntmps20 ?_
   repeat' (first|exact xf|refine aw0 ?_|(refine ap2 ?_ ?_<;>try intro h)|refine aw1 ?_|(refine abx ?_;intro bb)|(refine abz ?_;intro bz)|(refine ahv ?_;intro v' hv')|(refine aac ?_;intro ac cc)|refine aw2 ?_|(refine ap4 ?_ ?_<;>try intro h)|apply True.intro)
   ((with_reducible apply fp_ret);exact res_2 rfl rfl rfl)
   exact HR.out _ _ _ [] atks ⟨rfl,rfl⟩
end Go.Proofs.YtohpeoakdgckfaaGreat
