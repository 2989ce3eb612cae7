/- mudlarklaw23.ShardOpens: its contract. -/
import Derived.Test.YtohpeoakdgckfaaGreatOn
import Derived.Test.YtohpeoakdgckfaaGreatHv
import Derived.Test.YtohpeoakdgckfaaGreatMs
import Derived.Test.YtohpeoakdgckfaaGreatRh
import Derived.Test.YtohpeoakdgckfaaGreatTl
import Derived.Test.YtohpeoakdgckfaaGreatSf
set_option maxHeartbeats 4000000
set_option maxRecDepth 10000
namespace Go.Proofs.YtohpeoakdgckfaaGreat
open Go.RowKit Sx
theorem placesG_make {ds:List (List UInt8)} {s:List UInt8} (h:s∈(grams (occs ds ds.length)).map (·.1)):placesG (makeP ds) s=getG (grams (occs ds ds.length)) s:=by
 unfold placesG makeP
 rw [List.findIdx?_map]
 have hm:s∈((grams (occs ds ds.length)).map (·.1)).mergeSort leB:=List.mem_mergeSort.2 h
 generalize ((grams (occs ds ds.length)).map (·.1)).mergeSort leB=L at hm
 show (match L.findIdx? (fun g=>decide (g=s)) with|some k=>((L.map fun g=>(g,getG (grams (occs ds ds.length)) g)).getD k default).2|none=>[])=_
 cases e:L.findIdx? (fun g=>decide (g=s)) with
 | none =>
  have:=List.findIdx?_eq_none_iff.1 e s hm
  simp at this
 | some k =>
  obtain ⟨hk,h1,_⟩:=List.findIdx?_eq_some_iff_getElem.1 e
  have h1:=of_decide_eq_true h1
  dsimp only
  rw [List.getD_eq_getElem?_getD,List.getElem?_map,List.getElem?_eq_getElem hk]
  simp [h1]
def ad23:List UInt8:=[97,98,10,99,100]
def ks23:List KeyF:=[([97,46,103,111],ad23)]
def W23:List UInt8:=frameB [(1,[0]),(2,[]),(3,[]),(4,[0])]
theorem shard23:shardB []=W23:=by
 have h:septs 0=[0]:=septs_small (by omega)
 unfold shardB shardP W23 putBytes putB contB risesB
 rw [List.map_nil,List.map_nil,makeP_nil]
 simp only [List.length_nil,List.flatMap_nil,List.append_nil,h]
theorem body23:(bodyB [(1,[0]),(2,[]),(3,[]),(4,[0])]).length<=1000000:=by
 simp [bodyB,partB,texts,septs_small]
theorem small23:sizeF (ks23.map unK)<=1600:=by decide
theorem ok23:filesOkK ks23=true:=by kernel_rfl
theorem ok23':filesOk (ks23.map unK)=true:=by rw [filesOk_key,unK_key];exact ok23
theorem places23:placesG (makeP (ks23.map (·.2))) [98,10,99]=[⟨0,1⟩]:=by
 rw [placesG_make (by decide)]
 kernel_rfl
theorem lines23:(if 0<=(0:Int)/\(0:Int)<ks23.length then linesOf (dataAt ks23 0) else [])=[0,3]:=by decide
theorem awake23_any (r:Hp):Tri Tryz.prog r 8 [] [] fun w H=>w = .bool true/\H=[]:=by
 refine Tri.free2 fun R HR=>?_
 have hmk:=fun r'=>smake_any r' (.slice none 0 0) [] ⟨⟨fun _=>rfl,Sl.nil _ _⟩,fun f hf=>by cases hf⟩ (Nat.zero_le _)
 rw [show filesOk []=true by kernel_rfl,shard23] at hmk
 simp only [if_true] at hmk
 have hpu:=fun r' bz v1 v4=>rfput4 r' bz v1 (.slice none 0 0) (.slice none 0 0) v4 [0] [] [] [0] body23
 rw [show frameB [(1,[0]),(2,[]),(3,[]),(4,[0])]=W23 from rfl] at hpu
 obtain ⟨B,hB⟩ : ∃ B,shardB (ks23.map unK)=B:=⟨_,rfl⟩
 have hm2:=fun r' v (h : ∃ Z:List FileV,Z.map FileV.key=ks23/\Files r' v Z)=>smakeK_any r' v ks23 h (Nat.le_trans small23 (by omega))
 rw [ok23,hB] at hm2
 simp only [if_true] at hm2
 have hop:=fun r' v h=>open_made r' v (ks23.map unK) ok23' small23 h
 rw [hB,unK_key] at hop
 have hBl:B.length<=300008:=hB ▸ shardB_len small23
 have hB8:8<=B.length:=by
  have:=frameB_len (shardP (ks23.map unK))
  rw [← hB]
  unfold shardB
  omega
 have hct:=okF_cut (fs:=ks23.map unK) (Nat.le_trans small23 (by omega)) (k:=B.length / 2) (by rw [hB];omega)
 rw [hB] at hct
 have hoc:=fun r' v (h:U8S r' v (B.take (B.length / 2)))=>open_bad r' v (B.take (B.length / 2)) h (by rw [List.length_take];omega) hct
 have hln:=fun r' v (h:ShR r' v ks23)=>slines_any r' v ks23 0 h (by decide)
 rw [lines23] at hln
 have hpl:=fun r' v (h:ShR r' v ks23)=>splaces_any r' v ks23 [98,10,99] h (fun p hp=>by
  have h:=(made_ok (fs:=ks23.map unK) (Nat.le_trans small23 (by omega))).2.2.2.1 p (by rw [data_key,unK_key];exact hp)
  omega)
 rw [places23] at hpl
 refine ae Tryz.func8 Tryz.ntmps8 ?_
 have hfs:=fun r' b28 b31 (h1:r' b31=some (.cells [.string (bs [97,46,103,111]),.slice (some ⟨b28,0,none⟩) 5 5].toArray 45 (0,0))) (h2:r' b28=some (.cells [.int .u8 97,.int .u8 98,.int .u8 10,.int .u8 99,.int .u8 100].toArray 5 (5,6)))=>hm2 r' (.slice (some ⟨b31,0,none⟩) 1 1) ⟨[⟨[97,46,103,111],.slice (some ⟨b28,0,none⟩) 5 5,ad23⟩],rfl,⟨⟨fun _=>rfl,Sl.lit h1 rfl (by simp [maxLen])⟩,fun f hf=>by obtain rfl:=List.mem_singleton.1 hf;exact Sl.lit h2 rfl (by simp [maxLen])⟩⟩
 have hsm:=fun r' v w (hv:U8S r' v W23) (hw:U8S r' w W23)=>sameBytes_any r' v w W23 W23 hv hw
 simp only [decide_true] at hsm
 generalize W23=W at hmk hpu hsm
 have hqd:List.take (((B.length:Int) / 2).toNat - Int.toNat 0) (List.drop (Int.toNat 0) B)=B.take (B.length / 2):=by
  rw [show ((B.length:Int) / 2).toNat=B.length / 2 by omega];rfl
 repeat' (first|(refine acl Tryz.func10 ?_;refine acr (hmk _) ?_;rintro v' H' ⟨a0,c0,rfl,rfl⟩;refine apl ?_)|((with_reducible apply kx_bsL (d:=some 17));exact ty_el;exact ty_inf;rfl;rfl;rfl;(exact qcs);rfl;intro b17;(refine apk ?_))|((with_reducible apply kx_bsL (d:=some 21));exact ty_el;exact ty_inf;rfl;rfl;rfl;(exact qcs);rfl;intro b21;(refine apk ?_))|((with_reducible apply kx_bsL (d:=some 23));exact ty_el;exact ty_inf;rfl;rfl;rfl;(exact qcs);rfl;intro b23;(refine apk ?_))|((with_reducible apply kx_bsL (d:=some 28));exact ty_el;exact ty_inf;rfl;rfl;rfl;(exact qcs);rfl;intro b28;(refine apk ?_))|((with_reducible apply kx_bsL (d:=some 31));exact ty_el;exact ty_inf;rfl;rfl;rfl;(exact qcs);rfl;intro b31;(refine apk ?_))|((with_reducible refine swo_isCall 21 ?_);(refine swo_put (A:=U8R (.slice none 0 0) []) (RowC.nil _ _) ?_);(refine swo_put (A:=U8R (.slice none 0 0) []) (RowC.nil _ _) ?_);(with_reducible apply swo_imp (A:=pt b17 _) (B:=U8R (.slice (some ⟨b17,0,none⟩) 1 1) [0]));(exact atk);(intro h e;exact RowC.of_pt (Nat.le_refl _) (by simp [maxLen]) rfl h e);(with_reducible apply swo_imp (A:=pt b21 _) (B:=U8R (.slice (some ⟨b21,0,none⟩) 1 1) [0]));(exact atk);(intro h e;exact RowC.of_pt (Nat.le_refl _) (by simp [maxLen]) rfl h e);(refine acl Tryz.func21 ?_;refine acr (hpu _ b23 (.slice (some ⟨b17,0,none⟩) 1 1) (.slice (some ⟨b21,0,none⟩) 1 1)) ?_;rintro v' H' ⟨a3,c3,rfl,rfl⟩;refine apl ?_))|((with_reducible apply kx_mark);exact ty_el;kernel_rfl;rfl;(exact atk);(refine apk ?_))|((with_reducible apply kx_lend [(b31,.cells [.string (bs [97,46,103,111]),.slice (some ⟨b28,0,none⟩) 5 5].toArray 45 (0,0)),(b28,.cells [.int .u8 97,.int .u8 98,.int .u8 10,.int .u8 99,.int .u8 100].toArray 5 (5,6))]);(exact atks);intro r' hl';refine acl Tryz.func10 ?_;refine acr (hfs _ _ _ (Lent.h1 hl') (Lent.h2 hl')) ?_;rintro v' H' ⟨a5,c5,rfl,rfl⟩;all_goals refine apm ?_)|((with_reducible apply sw_lendQ (c:= .region 4 _ _) (A:=U8R (.slice a5 B.length c5) B));(with_reducible (exact atk));intro r1 g1 hr1 hg1 hA1;have hB1:=hA1.sl hg1)|(refine acl Tryz.func16 ?_;refine acr (hop _ _ hB1) ?_;rintro v' H' ⟨bp,rfl,rfl⟩;refine apl ?_)|((with_reducible apply sw_lendQ (c:= .region 5 _ _) (A:=U8R (.slice a5 B.length c5) B));(with_reducible (exact atk));intro r1 g1 hr1 hg1 hA1;have hB1:=hA1.sl hg1)|(rw [hqd] at hv')|(refine acl Tryz.func16 ?_;refine acr (hoc _ _ hv') ?_;rintro v' H' ⟨rfl,rfl⟩;refine apl ?_)|((with_reducible refine swo_isCall 27 ?_);(with_reducible apply kx_lendC (A:=ShC bp ks23));(exact atk);intro r2 g2 hr2 hg2 hA2;(refine acl Tryz.func27 ?_;refine acr (hln r2 _ (shC_read hA2 hg2)) ?_;rintro v' H' ⟨a6,c6,rfl,rfl⟩;refine apl ?_))|((with_reducible refine swo_isCall 28 ?_);(with_reducible apply kx_lendC (A:=ShC bp ks23));(exact atk);intro r2 g2 hr2 hg2 hA2;(refine acl Tryz.func28 ?_;refine acr (hpl r2 _ (shC_read hA2 hg2)) ?_;rintro v' H' ⟨a7,c7,rfl,rfl⟩;refine apl ?_))|((with_reducible refine swo_isCall 12 ?_);(with_reducible apply kx_lendC (A:=U8R (.slice a0 W.length c0) W));(exact atk);intro r3 g3 hr3 hg3 hA3;(with_reducible apply kx_lendC (A:=U8R (.slice a3 W.length c3) W));(exact atk);intro r4 g4 hr4 hg4 hA4;(refine acl Tryz.func12 ?_;refine acr (hsm r4 _ _ ((hA3.sl hg3).mono hr4) (hA4.sl hg4)) ?_;rintro v' H' ⟨rfl,rfl⟩;refine apl ?_))|exact xf|refine aw0 ?_|(refine ap2 ?_ ?_<;>try intro h)|refine aw1 ?_|(refine abx ?_;intro bb)|(refine abz ?_;intro bz)|(refine ahv ?_;intro v' hv')|(refine aac ?_;intro ac cc)|refine aw2 ?_|(refine ap4 ?_ ?_<;>try intro h)|apply True.intro)
 ((with_reducible apply fp_ret);exact res_1 rfl rfl)
 exact HR.out _ _ _ [] Takes.all ⟨rfl,rfl⟩
end Go.Proofs.YtohpeoakdgckfaaGreat
namespace Go.Proofs.YtohpeoakdgckfaaGreat
open Go.RowKit Sx
theorem shardOpens_any (r:Hp) (v:Value) (b s:List UInt8) (hv:U8S r v b) (hl:b.length<=140737488355328):Tri Tryz.prog r 4 [v,.string (bs s)] [] fun w H=>w = .bool true/\H=[]:=by
 refine Tri.free2 fun R HR=>?_
 by_cases hb:b.length<=1500
 · have hlb:=lentBytes_any r v b hv (by omega)
   have hop:=fun r' v (h:U8S r' v b)=>open_any r' v b h (small_of (by omega))
   have hrf:=fun r' v (h:U8S r' v b)=>rfiles23_any r' v b h (by omega)
   have hkw:=fun r' v (h:Wide r' v b) w (h2:U8S r' w b)=>keptW_any r' v w b h h2
   cases ho:openK b with
   | none =>
    simp only [ho] at hop hrf
    have htl:=fun r'=>tells_any r' (.pointer none) (.slice none 0 0) [] s (.inl ⟨rfl,rfl⟩) ⟨⟨fun _=>rfl,Sl.nil _ _⟩,fun f hf=>by cases hf⟩ (Nat.zero_le _) (by kernel_rfl)
    refine ae Tryz.func4 Tryz.ntmps4 ?_
    repeat' (first|(refine acl Tryz.func15 ?_;refine acr (hlb) ?_;rintro v' H' ⟨a1,c1,rfl,rfl⟩;refine apl ?_)|((with_reducible apply sw_freezeT (A:=RowC 5 1 (.slice a1 (b.length+12) c1) (b.length+12) (u8s (b++marksL 12))));(with_reducible (exact atk));intro r1 g1 hr1 hg1 hA1;have hW:=Wide.of hA1 hg1)|(refine acl Tryz.func16 ?_;refine acr (hop _ _ hW.sl) ?_;rintro v' H' ⟨rfl,rfl⟩;refine apl ?_)|(refine acl Tryz.func17 ?_;refine acr (hrf _ _ (hv.mono hr1)) ?_;rintro v' H' ⟨rfl,rfl⟩;refine apl ?_)|(refine acl Tryz.func18 ?_;refine acr (htl _) ?_;rintro v' H' ⟨rfl,rfl⟩;refine apl ?_)|(refine acl Tryz.func19 ?_;refine acr (hkw _ _ hW _ (hv.mono hr1)) ?_;rintro v' H' ⟨rfl,rfl⟩;refine apl ?_)|(refine acl Tryz.func8 ?_;refine acr (awake23_any _) ?_;rintro v' H' ⟨rfl,rfl⟩;refine apl ?_)|((with_reducible apply swo_pur);(first|((with_reducible apply pu_eqPn);rfl;rfl)|((with_reducible apply pu_eqPs);rfl;rfl)|((with_reducible apply pu_nePn);rfl;rfl)|((with_reducible apply pu_nePs);rfl;rfl));(refine apk ?_))|exact xf|refine aw0 ?_|(refine ap2 ?_ ?_<;>try intro h)|refine aw1 ?_|(refine abx ?_;intro bb)|(refine abz ?_;intro bz)|(refine ahv ?_;intro v' hv')|(refine aac ?_;intro ac cc)|refine aw2 ?_|(refine ap4 ?_ ?_<;>try intro h)|apply True.intro)
    ((with_reducible apply fp_ret);exact res_1 rfl rfl)
    exact HR.out _ _ _ [] Takes.all ⟨rfl,rfl⟩
   | some ks =>
    simp only [ho] at hop hrf
    obtain ⟨_,_,_,_,_,_,_,_,hks,_⟩:=openK_inv ho
    have hz:=openK_size ho
    have htl:=fun r' p v (h:ShR r' p ks) (h2 : ∃ Z:List FileV,Z.map FileV.key=ks/\Files r' v Z)=>(show Tri Tryz.prog r' 18 [p,v,.string (bs s)] [] fun w H=>w = .bool true/\H=[] from by
     obtain ⟨Z,h3,h4⟩:=h2
     subst h3
     exact tells_any r' p v Z s h h4 (by rw [sizeF_key];omega) (by rw [filesOk_key];exact hks))
    refine ae Tryz.func4 Tryz.ntmps4 ?_
    repeat' (first|(refine acl Tryz.func15 ?_;refine acr (hlb) ?_;rintro v' H' ⟨a1,c1,rfl,rfl⟩;refine apl ?_)|((with_reducible apply sw_freezeT (A:=RowC 5 1 (.slice a1 (b.length+12) c1) (b.length+12) (u8s (b++marksL 12))));(with_reducible (exact atk));intro r1 g1 hr1 hg1 hA1;have hW:=Wide.of hA1 hg1)|(refine acl Tryz.func16 ?_;refine acr (hop _ _ hW.sl) ?_;rintro v' H' ⟨p,rfl,rfl⟩;refine apl ?_)|(refine acl Tryz.func17 ?_;refine acr (hrf _ _ (hv.mono hr1)) ?_;rintro v' H' ⟨a2,c2,rfl,rfl⟩;refine apl ?_)|((with_reducible refine swo_isCall 18 ?_);(with_reducible apply kx_lendC (A:=ShC p ks));(exact atk);intro r2 g2 hr2 hg2 hA2;(with_reducible apply kx_lendC (A:=FilC (.slice a2 ks.length c2) ks));(exact atk);intro r3 g3 hr3 hg3 hA3;(refine acl Tryz.func18 ?_;refine acr (htl r3 _ _ ((shC_read hA2 hg2).mono hr3) (filC_files hA3 hg3)) ?_;rintro v' H' ⟨rfl,rfl⟩;refine apl ?_))|(refine acl Tryz.func19 ?_;refine acr (hkw _ _ hW _ (hv.mono hr1)) ?_;rintro v' H' ⟨rfl,rfl⟩;refine apl ?_)|(refine acl Tryz.func8 ?_;refine acr (awake23_any _) ?_;rintro v' H' ⟨rfl,rfl⟩;refine apl ?_)|((with_reducible apply swo_pur);(first|((with_reducible apply pu_eqPn);rfl;rfl)|((with_reducible apply pu_eqPs);rfl;rfl)|((with_reducible apply pu_nePn);rfl;rfl)|((with_reducible apply pu_nePs);rfl;rfl));(refine apk ?_))|exact xf|refine aw0 ?_|(refine ap2 ?_ ?_<;>try intro h)|refine aw1 ?_|(refine abx ?_;intro bb)|(refine abz ?_;intro bz)|(refine ahv ?_;intro v' hv')|(refine aac ?_;intro ac cc)|refine aw2 ?_|(refine ap4 ?_ ?_<;>try intro h)|apply True.intro)
    ((with_reducible apply fp_ret);exact res_1 rfl rfl)
    exact HR.out _ _ _ [] Takes.all ⟨rfl,rfl⟩
 · refine ae Tryz.func4 Tryz.ntmps4 ?_
   repeat' (first|(refine acl Tryz.func8 ?_;refine acr (awake23_any _) ?_;rintro v' H' ⟨rfl,rfl⟩;refine apl ?_)|exact xf|refine aw0 ?_|(refine ap2 ?_ ?_<;>try intro h)|refine aw1 ?_|(refine abx ?_;intro bb)|(refine abz ?_;intro bz)|(refine ahv ?_;intro v' hv')|(refine aac ?_;intro ac cc)|refine aw2 ?_|(refine ap4 ?_ ?_<;>try intro h)|apply True.intro)
   ((with_reducible apply fp_ret);exact res_1 rfl rfl)
   exact HR.out _ _ _ [] atks ⟨rfl,rfl⟩
end Go.Proofs.YtohpeoakdgckfaaGreat
