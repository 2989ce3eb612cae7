/- mudlarklaw23.ShardParts: its contract. -/
import Derived.Test.YtohpeoakdgckfaaGreatOn
import Derived.Test.YtohpeoakdgckfaaGreatHv
import Derived.Test.YtohpeoakdgckfaaGreatMs
import Derived.Test.YtohpeoakdgckfaaGreatRh
import Derived.Test.YtohpeoakdgckfaaGreatAb
import Derived.Test.YtohpeoakdgckfaaGreatKm
import Derived.Test.YtohpeoakdgckfaaGreatTl
import Derived.Test.YtohpeoakdgckfaaGreatKj
import Derived.Test.YtohpeoakdgckfaaGreatFw
import Derived.Test.YtohpeoakdgckfaaGreatShb
set_option maxHeartbeats 4000000
set_option maxRecDepth 10000
namespace Go.Proofs.YtohpeoakdgckfaaGreat
open Go.RowKit Sx
theorem ze8 {ds:List (List UInt8)} {s:List UInt8} (h:s∈(grams (occs ds ds.length)).map (·.1)):placesG (makeP ds) s=getG (grams (occs ds ds.length)) s:=by
 unfold placesG makeP
 rw [List.findIdx?_map]
 have hm:s∈((grams (occs ds ds.length)).map (·.1)).mergeSort leB:=List.mem_mergeSort.2 h
 generalize ((grams (occs ds ds.length)).map (·.1)).mergeSort leB=L at hm
 show (match L.findIdx? (fun g=>decide (g=s)) with|some k=>((L.map fun g=>(g,getG (grams (occs ds ds.length)) g)).getD k default).2|none=>[])=_
 cases e:L.findIdx? (fun g=>decide (g=s)) with
 | none =>
  have:=List.findIdx?_eq_none_iff.1 e s hm
  simp at this
 | some k =>
  obtain ⟨hk,h1,_⟩:=List.findIdx?_eq_some_iff_getElem.1 e
  have h1:=of_decide_eq_true h1
  dsimp only
  rw [List.getD_eq_getElem?_getD,List.getElem?_map,List.getElem?_eq_getElem hk]
  simp [h1]
def ad23:List UInt8:=[97,98,10,99,100]
def ks23:List KeyF:=[([97,46,103,111],ad23)]
def W23:List UInt8:=frameB [(1,[0]),(2,[]),(3,[]),(4,[0])]
theorem zqy:shardB []=W23:=by
 have h:septs 0=[0]:=z1e (by omega)
 unfold shardB shardP W23 putBytes putB contB risesB
 rw [List.map_nil,List.map_nil,zev]
 simp only [List.length_nil,List.flatMap_nil,List.append_nil,h]
theorem zsp:(bodyB [(1,[0]),(2,[]),(3,[]),(4,[0])]).length<=1000000:=by
 simp [bodyB,partB,texts,z1e]
theorem z9l:sizeF (ks23.map unK)<=1600:=by decide
theorem ok23:filesOkK ks23=true:=by kernel_rfl
theorem ok23':filesOk (ks23.map unK)=true:=by rw [z2l,z4h];exact ok23
theorem zo6:placesG (makeP (ks23.map (·.2))) [98,10,99]=[⟨0,1⟩]:=by
 rw [ze8 (by decide)]
 kernel_rfl
theorem zqz:(if 0<=(0:Int)/\(0:Int)<ks23.length then linesOf (dataAt ks23 0) else [])=[0,3]:=by decide
theorem z1v (r:Hp):Tri Tryz.prog r 8 [] [] fun w H=>w = .bool true/\H=[]:=by
 refine Tri.free2 fun R HR=>?_
 have hmk:=fun r'=>ze7 r' (.slice none 0 0) [] ⟨⟨fun _=>rfl,Sl.nil _ _⟩,fun f hf=>by cases hf⟩ (Nat.zero_le _)
 rw [show filesOk []=true by kernel_rfl,zqy] at hmk
 simp only [if_true] at hmk
 have hpu:=fun r' bz v1 v4=>zpv r' bz v1 (.slice none 0 0) (.slice none 0 0) v4 [0] [] [] [0] zsp
 rw [show frameB [(1,[0]),(2,[]),(3,[]),(4,[0])]=W23 from rfl] at hpu
 obtain ⟨B,hB⟩ : ∃ B,shardB (ks23.map unK)=B:=⟨_,rfl⟩
 have hm2:=fun r' v (h : ∃ Z:List FileV,Z.map FileV.key=ks23/\Files r' v Z)=>z7y r' v ks23 h (Nat.le_trans z9l (by omega))
 rw [ok23,hB] at hm2
 simp only [if_true] at hm2
 have hop:=fun r' v h=>zm5 r' v (ks23.map unK) ok23' z9l h
 rw [hB,z4h] at hop
 have hBl:B.length<=300008:=hB ▸ z5p z9l
 have hB8:8<=B.length:=by
  have:=z47 (shardP (ks23.map unK))
  rw [← hB]
  unfold shardB
  omega
 have hct:=zr4 (fs:=ks23.map unK) (Nat.le_trans z9l (by omega)) (k:=B.length / 2) (by rw [hB];omega)
 rw [hB] at hct
 have hoc:=fun r' v (h:U8S r' v (B.take (B.length / 2)))=>zoq r' v (B.take (B.length / 2)) h (by rw [List.length_take];omega) hct
 have hln:=fun r' v (h:ShR r' v ks23)=>z7v r' v ks23 0 h (by decide)
 rw [zqz] at hln
 have hpl:=fun r' v (h:ShR r' v ks23)=>z9w r' v ks23 [98,10,99] h (fun p hp=>by
  have h:=(z58 (fs:=ks23.map unK) (Nat.le_trans z9l (by omega))).2.2.2.1 p (by rw [z8z,z4h];exact hp)
  omega)
 rw [zo6] at hpl
 refine ae Tryz.func8 Tryz.ntmps8 ?_
 have hfs:=fun r' b28 b31 (h1:r' b31=some (.cells [.string (bs [97,46,103,111]),.slice (some ⟨b28,0,none⟩) 5 5].toArray 45 (0,0))) (h2:r' b28=some (.cells [.int .u8 97,.int .u8 98,.int .u8 10,.int .u8 99,.int .u8 100].toArray 5 (5,6)))=>hm2 r' (.slice (some ⟨b31,0,none⟩) 1 1) ⟨[⟨[97,46,103,111],.slice (some ⟨b28,0,none⟩) 5 5,ad23⟩],rfl,⟨⟨fun _=>rfl,Sl.lit h1 rfl (by simp [maxLen])⟩,fun f hf=>by obtain rfl:=List.mem_singleton.1 hf;exact Sl.lit h2 rfl (by simp [maxLen])⟩⟩
 have hsm:=fun r' v w (hv:U8S r' v W23) (hw:U8S r' w W23)=>z21 r' v w W23 W23 hv hw
 simp only [decide_true] at hsm
 generalize W23=W at hmk hpu hsm
 have hqd:List.take (((B.length:Int) / 2).toNat - Int.toNat 0) (List.drop (Int.toNat 0) B)=B.take (B.length / 2):=by
  rw [show ((B.length:Int) / 2).toNat=B.length / 2 by omega];rfl
 repeat' (first|(refine acl Tryz.func10 ?_;refine acr (hmk _) ?_;rintro v' H' ⟨a0,c0,rfl,rfl⟩;refine apl ?_)|((with_reducible apply z5e (d:=some 17));exact ty_el;exact z03;rfl;rfl;rfl;(exact qcs);rfl;intro b17;(refine apk ?_))|((with_reducible apply z5e (d:=some 21));exact ty_el;exact z03;rfl;rfl;rfl;(exact qcs);rfl;intro b21;(refine apk ?_))|((with_reducible apply z5e (d:=some 23));exact ty_el;exact z03;rfl;rfl;rfl;(exact qcs);rfl;intro b23;(refine apk ?_))|((with_reducible apply z5e (d:=some 28));exact ty_el;exact z03;rfl;rfl;rfl;(exact qcs);rfl;intro b28;(refine apk ?_))|((with_reducible apply z5e (d:=some 31));exact ty_el;exact z03;rfl;rfl;rfl;(exact qcs);rfl;intro b31;(refine apk ?_))|((with_reducible refine z07 21 ?_);(refine zgc (A:=U8R (.slice none 0 0) []) (RowC.nil _ _) ?_);(refine zgc (A:=U8R (.slice none 0 0) []) (RowC.nil _ _) ?_);(with_reducible apply zc6 (A:=pt b17 _) (B:=U8R (.slice (some ⟨b17,0,none⟩) 1 1) [0]));(exact atk);(intro h e;exact RowC.of_pt (Nat.le_refl _) (by simp [maxLen]) rfl h e);(with_reducible apply zc6 (A:=pt b21 _) (B:=U8R (.slice (some ⟨b21,0,none⟩) 1 1) [0]));(exact atk);(intro h e;exact RowC.of_pt (Nat.le_refl _) (by simp [maxLen]) rfl h e);(refine acl Tryz.func21 ?_;refine acr (hpu _ b23 (.slice (some ⟨b17,0,none⟩) 1 1) (.slice (some ⟨b21,0,none⟩) 1 1)) ?_;rintro v' H' ⟨a3,c3,rfl,rfl⟩;refine apl ?_))|((with_reducible apply zlf);exact ty_el;kernel_rfl;rfl;(exact atk);(refine apk ?_))|((with_reducible apply z0k [(b31,.cells [.string (bs [97,46,103,111]),.slice (some ⟨b28,0,none⟩) 5 5].toArray 45 (0,0)),(b28,.cells [.int .u8 97,.int .u8 98,.int .u8 10,.int .u8 99,.int .u8 100].toArray 5 (5,6))]);(exact atks);intro r' hl';refine acl Tryz.func10 ?_;refine acr (hfs _ _ _ (Lent.h1 hl') (Lent.h2 hl')) ?_;rintro v' H' ⟨a5,c5,rfl,rfl⟩;all_goals refine apm ?_)|((with_reducible apply z13 (c:= .region 4 _ _) (A:=U8R (.slice a5 B.length c5) B));(with_reducible (exact atk));intro r1 g1 hr1 hg1 hA1;have hB1:=hA1.sl hg1)|(refine acl Tryz.func16 ?_;refine acr (hop _ _ hB1) ?_;rintro v' H' ⟨bp,rfl,rfl⟩;refine apl ?_)|((with_reducible apply z13 (c:= .region 5 _ _) (A:=U8R (.slice a5 B.length c5) B));(with_reducible (exact atk));intro r1 g1 hr1 hg1 hA1;have hB1:=hA1.sl hg1)|(rw [hqd] at hv')|(refine acl Tryz.func16 ?_;refine acr (hoc _ _ hv') ?_;rintro v' H' ⟨rfl,rfl⟩;refine apl ?_)|((with_reducible refine z07 27 ?_);(with_reducible apply z05 (A:=ShC bp ks23));(exact atk);intro r2 g2 hr2 hg2 hA2;(refine acl Tryz.func27 ?_;refine acr (hln r2 _ (zcn hA2 hg2)) ?_;rintro v' H' ⟨a6,c6,rfl,rfl⟩;refine apl ?_))|((with_reducible refine z07 28 ?_);(with_reducible apply z05 (A:=ShC bp ks23));(exact atk);intro r2 g2 hr2 hg2 hA2;(refine acl Tryz.func28 ?_;refine acr (hpl r2 _ (zcn hA2 hg2)) ?_;rintro v' H' ⟨a7,c7,rfl,rfl⟩;refine apl ?_))|((with_reducible refine z07 12 ?_);(with_reducible apply z05 (A:=U8R (.slice a0 W.length c0) W));(exact atk);intro r3 g3 hr3 hg3 hA3;(with_reducible apply z05 (A:=U8R (.slice a3 W.length c3) W));(exact atk);intro r4 g4 hr4 hg4 hA4;(refine acl Tryz.func12 ?_;refine acr (hsm r4 _ _ ((hA3.sl hg3).mono hr4) (hA4.sl hg4)) ?_;rintro v' H' ⟨rfl,rfl⟩;refine apl ?_))|exact xf|refine aw0 ?_|(refine ap2 ?_ ?_<;>try intro h)|refine aw1 ?_|(refine abx ?_;intro bb)|(refine abz ?_;intro bz)|(refine ahv ?_;intro v' hv')|(refine aac ?_;intro ac cc)|refine aw2 ?_|(refine ap4 ?_ ?_<;>try intro h)|apply True.intro)
 ((with_reducible apply z00);exact res_1 rfl rfl)
 exact HR.out _ _ _ [] Takes.all ⟨rfl,rfl⟩
theorem Files.mono' {r r':Hp} {v:Value} {fs:List FileV} (h:Files r v fs) (hr:sub r r'):Files r' v fs:=⟨h.1.mono hr,fun f hf=>(h.2 f hf).mono hr⟩
theorem zo7 (r:Hp) (v:Value) (hv:Sl r 1 v 2 [.slice none 0 0,.slice none 0 0]):Tri Tryz.prog r 14 [v] [] fun w H=>w = .bool true/\H=[]:=by
 refine zc7 (RowC.nil 5 1) ?_
 refine zc7 (RowC.nil 5 1) ?_
 exact z3r r v [⟨none,0,[]⟩,⟨none,0,[]⟩] ⟨fun _=>rfl,hv⟩ (by simp) (fun x hx=>by simp at hx;subst hx;simp)
theorem zo8 (r:Hp) (v:Value) (a b:Option Addr) (c d:Nat) (l m:List UInt8) (hv:Sl r 1 v 2 [.slice a l.length c,.slice b m.length d]) (hl:l.length<=100000000) (hm:m.length<=100000000):Tri Tryz.prog r 14 [v] [U8R (.slice a l.length c) l,U8R (.slice b m.length d) m] fun w H=>w = .bool true/\H=[] :=
 z3r r v [⟨a,c,l⟩,⟨b,d,m⟩] ⟨fun _=>rfl,hv⟩ (by simp) (fun x hx=>by
  rcases List.mem_cons.1 hx with rfl|hx
  · exact hl
  · obtain rfl:=List.mem_singleton.1 hx;exact hm)
theorem zjt {fs:List FileV} {B:Nat} (h:sizeF fs<=B):fs.length<=B /\ ∀ f∈fs,f.path.length<=B/\f.data.length<=B :=
 ⟨Nat.le_trans (z22 fs) h,fun f hf=>by have:=z4x hf;omega⟩
theorem zao (r:Hp) (v:Value) (fs:List FileV) (hv:Files r v fs) (hl : ∀ f∈fs,f.path.length<=140737488351232/\f.data.length<=140737488351232):Tri Tryz.prog r 3 [v] [] fun w H=>w = .bool true/\H=[]:=by
 refine Tri.free2 fun R HR=>?_
 have hfo:=zgd r v fs 1500 hv hl (by omega)
 rw [show ((1500:Nat):Int)=1500 from rfl] at hfo
 by_cases hb:sizeF fs<=1500
 · obtain ⟨hn,hs⟩:=zjt hb
   have hlf:=zce r v fs hv (by omega) (fun f hf=>by have:=hs f hf;omega)
   refine ae Tryz.func3 Tryz.ntmps3 ?_
   repeat' (first|(refine acl Tryz.func7 ?_;refine acr (hfo) ?_;rintro v' H' ⟨⟨s,rfl,hsz⟩,rfl⟩;refine apl ?_)|(refine acl Tryz.func9 ?_;refine acr (hlf) ?_;rintro v' H' rfl;all_goals refine apl ?_)|((with_reducible apply z12 (A:=fun g=>LentFs g v' fs));(with_reducible (exact atk));intro r1 g1 hr1 hg1 hA1)|exact xf|refine aw0 ?_|(refine ap2 ?_ ?_<;>try intro h)|refine aw1 ?_|(refine abx ?_;intro bb)|(refine abz ?_;intro bz)|(refine ahv ?_;intro v' hv')|(refine aac ?_;intro ac cc)|refine aw2 ?_|(refine ap4 ?_ ?_<;>try intro h)|apply True.intro)
   have hL:LentFs r1 v' fs:=LentFs.mono hA1 hg1
   obtain ⟨fs',hm,hf⟩:=hL.files
   have hz:sizeF ((fs.map FileV.key).map unK)<=2000:=by rw [← z3j];omega
   have hz16:sizeF ((fs.map FileV.key).map unK)<=1600:=by rw [← z3j];omega
   have hBl:=z5p hz16
   have hmk:=fun r2 (hr:sub r1 r2)=>z7y r2 v' (fs.map FileV.key) ⟨fs',hm,hf.mono' hr⟩ hz
   have hrm:=fun r2 (hr:sub r1 r2)=>zbf r2 v (fs.map FileV.key) ⟨fs,rfl,(hv.mono' hr1).mono' hr⟩ hz
   have hk:=fun r2 (hr:sub r1 r2)=>zcf r2 v' v fs (hL.mono hr) ((hv.mono' hr1).mono' hr) (by omega)
   generalize shardB ((fs.map FileV.key).map unK)=B at hmk hrm hBl
   cases hok:filesOkK (fs.map FileV.key)
   · simp only [hok,Bool.false_eq_true,if_false] at hmk hrm
     repeat' (first|(refine acl Tryz.func10 ?_;refine acr (hmk _ (fun _ _ h=>h)) ?_;rintro v' H' ⟨rfl,rfl⟩;refine apl ?_)|(refine acl Tryz.func11 ?_;refine acr (hrm _ (fun _ _ h=>h)) ?_;rintro v' H' ⟨rfl,rfl⟩;refine apl ?_)|(refine acl Tryz.func12 ?_;refine acr (z21 _ _ _ [] [] (Sl.nil _ _) (Sl.nil _ _)) ?_;rintro v' H' ⟨rfl,rfl⟩;refine apl ?_)|(refine acl Tryz.func13 ?_;refine acr (hk _ (fun _ _ h=>h)) ?_;rintro v' H' ⟨rfl,rfl⟩;refine apl ?_)|((with_reducible apply z0k [(bz,.cells [.slice none 0 0,.slice none 0 0].toArray 26 (0,0))]);(exact atks);intro r' hl';refine acl Tryz.func14 ?_;refine acr (zo7 _ _ (Sl.lit (n:=2) (Lent.h1 hl') rfl (by simp [maxLen]))) ?_;rintro v' H' ⟨rfl,rfl⟩;all_goals refine apm ?_)|(refine acl Tryz.func8 ?_;refine acr (z1v _) ?_;rintro v' H' ⟨rfl,rfl⟩;refine apl ?_)|exact xf|refine aw0 ?_|(refine ap2 ?_ ?_<;>try intro h)|refine aw1 ?_|(refine abx ?_;intro bb)|(refine abz ?_;intro bz)|(refine ahv ?_;intro v' hv')|(refine aac ?_;intro ac cc)|refine aw2 ?_|(refine ap4 ?_ ?_<;>try intro h)|apply True.intro)
     ((with_reducible apply z00);exact res_1 rfl rfl)
     exact HR.out _ _ _ [] Takes.all ⟨rfl,rfl⟩
   · simp only [hok,if_true] at hmk hrm
     repeat' (first|(refine acl Tryz.func10 ?_;refine acr (hmk _ (fun _ _ h=>h)) ?_;rintro v' H' ⟨a2,c2,rfl,rfl⟩;refine apl ?_)|refine aw0 ?_|(refine ap2 ?_ ?_<;>try intro h)|refine aw1 ?_|(refine abx ?_;intro bb)|(refine abz ?_;intro bz)|(refine ahv ?_;intro v' hv')|(refine aac ?_;intro ac cc)|refine aw2 ?_|(refine ap4 ?_ ?_<;>try intro h)|apply True.intro)
     repeat' (first|(refine acl Tryz.func11 ?_;refine acr (hrm _ (fun _ _ h=>h)) ?_;rintro v' H' ⟨a3,c3,rfl,rfl⟩;refine apl ?_)|refine aw0 ?_|(refine ap2 ?_ ?_<;>try intro h)|refine aw1 ?_|(refine abx ?_;intro bb)|(refine abz ?_;intro bz)|(refine ahv ?_;intro v' hv')|(refine aac ?_;intro ac cc)|refine aw2 ?_|(refine ap4 ?_ ?_<;>try intro h)|apply True.intro)
     repeat' (first|(refine acl Tryz.func10 ?_;refine acr (hmk _ (fun _ _ h=>h)) ?_;rintro v' H' ⟨a4,c4,rfl,rfl⟩;refine apl ?_)|((with_reducible apply z05 (A:=U8R (.slice a2 B.length c2) B));(exact atk);intro r5 g5 hr5 hg5 hA5;(with_reducible apply z05 (A:=U8R (.slice a3 B.length c3) B));(exact atk);intro r6 g6 hr6 hg6 hA6;(refine acl Tryz.func12 ?_;refine acr (z21 r6 _ _ B B ((hA5.sl hg5).mono hr6) (hA6.sl hg6)) ?_;rintro v' H' ⟨rfl,rfl⟩;refine apl ?_))|(refine acl Tryz.func13 ?_;refine acr (hk _ (fun _ _ h=>h)) ?_;rintro v' H' ⟨rfl,rfl⟩;refine apl ?_)|((with_reducible apply z0k [(bz,.cells [.slice a2 B.length c2,.slice a4 B.length c4].toArray 26 (0,0))]);(exact atks);intro r' hl';refine acl Tryz.func14 ?_;refine acr (zo8 _ _ a2 a4 c2 c4 B B (Sl.lit (n:=2) (Lent.h1 hl') rfl (by simp [maxLen])) (by omega) (by omega)) ?_;rintro v' H' ⟨rfl,rfl⟩;all_goals refine apm ?_)|(refine acl Tryz.func8 ?_;refine acr (z1v _) ?_;rintro v' H' ⟨rfl,rfl⟩;refine apl ?_)|exact xf|refine aw0 ?_|(refine ap2 ?_ ?_<;>try intro h)|refine aw1 ?_|(refine abx ?_;intro bb)|(refine abz ?_;intro bz)|(refine ahv ?_;intro v' hv')|(refine aac ?_;intro ac cc)|refine aw2 ?_|(refine ap4 ?_ ?_<;>try intro h)|apply True.intro)
     ((with_reducible apply z00);exact res_1 rfl rfl)
     exact HR.out _ _ _ [] Takes.all ⟨rfl,rfl⟩
 · refine ae Tryz.func3 Tryz.ntmps3 ?_
   repeat' (first|refine aw0m ?_|(refine ap2 ?_ ?_<;>try intro h)|(refine acl Tryz.func7 ?_;refine acr (hfo) ?_;rintro v' H' ⟨⟨s,rfl,hsz⟩,rfl⟩;refine apl ?_)|(refine acl Tryz.func8 ?_;refine acr (z1v _) ?_;rintro v' H' ⟨rfl,rfl⟩;refine apl ?_)|exact xf|refine aw1m ?_|(refine abx ?_;intro bb)|(refine abz ?_;intro bz)|(refine ahv ?_;intro v' hv')|(refine aac ?_;intro ac cc)|refine aw2 ?_|(refine ap4 ?_ ?_<;>try intro h)|apply True.intro)
   ((with_reducible apply z00);exact res_1 rfl rfl)
   exact HR.out _ _ _ [] atks ⟨rfl,rfl⟩
theorem z0p (r:Hp) (v:Value) (b s:List UInt8) (hv:U8S r v b) (hl:b.length<=140737488355328):Tri Tryz.prog r 4 [v,.string (bs s)] [] fun w H=>w = .bool true/\H=[]:=by
 refine Tri.free2 fun R HR=>?_
 by_cases hb:b.length<=1500
 · have hlb:=z6x r v b hv (by omega)
   have hop:=fun r' v (h:U8S r' v b)=>zd2 r' v b h (zog (by omega))
   have hrf:=fun r' v (h:U8S r' v b)=>zf5 r' v b h (by omega)
   have hkw:=fun r' v (h:Wide r' v b) w (h2:U8S r' w b)=>zek r' v w b h h2
   cases ho:openK b with
   | none =>
    simp only [ho] at hop hrf
    have htl:=fun r'=>z9i r' (.pointer none) (.slice none 0 0) [] s (.inl ⟨rfl,rfl⟩) ⟨⟨fun _=>rfl,Sl.nil _ _⟩,fun f hf=>by cases hf⟩ (Nat.zero_le _) (by kernel_rfl)
    refine ae Tryz.func4 Tryz.ntmps4 ?_
    repeat' (first|(refine acl Tryz.func15 ?_;refine acr (hlb) ?_;rintro v' H' ⟨a1,c1,rfl,rfl⟩;refine apl ?_)|((with_reducible apply z12 (A:=RowC 5 1 (.slice a1 (b.length+12) c1) (b.length+12) (u8s (b++marksL 12))));(with_reducible (exact atk));intro r1 g1 hr1 hg1 hA1;have hW:=Wide.of hA1 hg1)|(refine acl Tryz.func16 ?_;refine acr (hop _ _ hW.sl) ?_;rintro v' H' ⟨rfl,rfl⟩;refine apl ?_)|(refine acl Tryz.func17 ?_;refine acr (hrf _ _ (hv.mono hr1)) ?_;rintro v' H' ⟨rfl,rfl⟩;refine apl ?_)|(refine acl Tryz.func18 ?_;refine acr (htl _) ?_;rintro v' H' ⟨rfl,rfl⟩;refine apl ?_)|(refine acl Tryz.func19 ?_;refine acr (hkw _ _ hW _ (hv.mono hr1)) ?_;rintro v' H' ⟨rfl,rfl⟩;refine apl ?_)|(refine acl Tryz.func8 ?_;refine acr (z1v _) ?_;rintro v' H' ⟨rfl,rfl⟩;refine apl ?_)|((with_reducible apply z0z);(first|((with_reducible apply z1p);rfl;rfl)|((with_reducible apply z1q);rfl;rfl)|((with_reducible apply z1r);rfl;rfl)|((with_reducible apply z1s);rfl;rfl));(refine apk ?_))|exact xf|refine aw0 ?_|(refine ap2 ?_ ?_<;>try intro h)|refine aw1 ?_|(refine abx ?_;intro bb)|(refine abz ?_;intro bz)|(refine ahv ?_;intro v' hv')|(refine aac ?_;intro ac cc)|refine aw2 ?_|(refine ap4 ?_ ?_<;>try intro h)|apply True.intro)
    ((with_reducible apply z00);exact res_1 rfl rfl)
    exact HR.out _ _ _ [] Takes.all ⟨rfl,rfl⟩
   | some ks =>
    simp only [ho] at hop hrf
    obtain ⟨_,_,_,_,_,_,_,_,hks,_⟩:=z6s ho
    have hz:=zjw ho
    have htl:=fun r' p v (h:ShR r' p ks) (h2 : ∃ Z:List FileV,Z.map FileV.key=ks/\Files r' v Z)=>(show Tri Tryz.prog r' 18 [p,v,.string (bs s)] [] fun w H=>w = .bool true/\H=[] from by
     obtain ⟨Z,h3,h4⟩:=h2
     subst h3
     exact z9i r' p v Z s h h4 (by rw [z3j];omega) (by rw [z2l];exact hks))
    refine ae Tryz.func4 Tryz.ntmps4 ?_
    repeat' (first|(refine acl Tryz.func15 ?_;refine acr (hlb) ?_;rintro v' H' ⟨a1,c1,rfl,rfl⟩;refine apl ?_)|((with_reducible apply z12 (A:=RowC 5 1 (.slice a1 (b.length+12) c1) (b.length+12) (u8s (b++marksL 12))));(with_reducible (exact atk));intro r1 g1 hr1 hg1 hA1;have hW:=Wide.of hA1 hg1)|(refine acl Tryz.func16 ?_;refine acr (hop _ _ hW.sl) ?_;rintro v' H' ⟨p,rfl,rfl⟩;refine apl ?_)|(refine acl Tryz.func17 ?_;refine acr (hrf _ _ (hv.mono hr1)) ?_;rintro v' H' ⟨a2,c2,rfl,rfl⟩;refine apl ?_)|((with_reducible refine z07 18 ?_);(with_reducible apply z05 (A:=ShC p ks));(exact atk);intro r2 g2 hr2 hg2 hA2;(with_reducible apply z05 (A:=FilC (.slice a2 ks.length c2) ks));(exact atk);intro r3 g3 hr3 hg3 hA3;(refine acl Tryz.func18 ?_;refine acr (htl r3 _ _ ((zcn hA2 hg2).mono hr3) (z1f hA3 hg3)) ?_;rintro v' H' ⟨rfl,rfl⟩;refine apl ?_))|(refine acl Tryz.func19 ?_;refine acr (hkw _ _ hW _ (hv.mono hr1)) ?_;rintro v' H' ⟨rfl,rfl⟩;refine apl ?_)|(refine acl Tryz.func8 ?_;refine acr (z1v _) ?_;rintro v' H' ⟨rfl,rfl⟩;refine apl ?_)|((with_reducible apply z0z);(first|((with_reducible apply z1p);rfl;rfl)|((with_reducible apply z1q);rfl;rfl)|((with_reducible apply z1r);rfl;rfl)|((with_reducible apply z1s);rfl;rfl));(refine apk ?_))|exact xf|refine aw0 ?_|(refine ap2 ?_ ?_<;>try intro h)|refine aw1 ?_|(refine abx ?_;intro bb)|(refine abz ?_;intro bz)|(refine ahv ?_;intro v' hv')|(refine aac ?_;intro ac cc)|refine aw2 ?_|(refine ap4 ?_ ?_<;>try intro h)|apply True.intro)
    ((with_reducible apply z00);exact res_1 rfl rfl)
    exact HR.out _ _ _ [] Takes.all ⟨rfl,rfl⟩
 · refine ae Tryz.func4 Tryz.ntmps4 ?_
   repeat' (first|(refine acl Tryz.func8 ?_;refine acr (z1v _) ?_;rintro v' H' ⟨rfl,rfl⟩;refine apl ?_)|exact xf|refine aw0 ?_|(refine ap2 ?_ ?_<;>try intro h)|refine aw1 ?_|(refine abx ?_;intro bb)|(refine abz ?_;intro bz)|(refine ahv ?_;intro v' hv')|(refine aac ?_;intro ac cc)|refine aw2 ?_|(refine ap4 ?_ ?_<;>try intro h)|apply True.intro)
   ((with_reducible apply z00);exact res_1 rfl rfl)
   exact HR.out _ _ _ [] atks ⟨rfl,rfl⟩
theorem setPa : ∀ (Z:List PartV) (i:Nat) (z:PartV),i<Z.length->(Z.flatMap encPa).take (i*2)++(encPa z++(Z.flatMap encPa).drop (i*2+2))=(Z.set i z).flatMap encPa
 | y::Z,0,z,_=>by simp [encPa]
 | y::Z,i+1,z,h=>by
  have ih:=setPa Z i z (by simpa using h)
  rw [List.set_cons_succ,List.flatMap_cons,List.flatMap_cons,← ih,show (i+1)*2=i*2+2 by omega]
  simp [encPa]
theorem zpw : ∀ (Z:List PartV) (i:Nat) (t:UInt8),i<Z.length->(Z.flatMap encPa).set (i*2) (.int .u8 t.toNat)=(Z.set i ⟨t,(Z.getD i default).val,(Z.getD i default).data⟩).flatMap encPa
 | y::Z,0,t,_=>by simp [encPa]
 | y::Z,i+1,t,h=>by
  have ih:=zpw Z i t (by simpa using h)
  rw [List.set_cons_succ,List.flatMap_cons,List.flatMap_cons,List.getD_cons_succ,← ih,show (i+1)*2=i*2+2 by omega]
  simp [encPa]
theorem zlj : ∀ (Z:List PartV) (i:Nat) (v:Value) (d:List UInt8),i<Z.length->(Z.flatMap encPa).set (i*2+1) v=(Z.set i ⟨(Z.getD i default).tag,v,d⟩).flatMap encPa
 | y::Z,0,v,d,_=>by simp [encPa]
 | y::Z,i+1,v,d,h=>by
  have ih:=zlj Z i v d (by simpa using h)
  rw [List.set_cons_succ,List.flatMap_cons,List.flatMap_cons,List.getD_cons_succ,← ih,show (i+1)*2+1=i*2+1+2 by omega]
  simp [encPa]
theorem zgn : ∀ (Z:List PartV) (i:Nat) (z:PartV),(bodyB ((Z.set i z).map pOf)).length<=(bodyB (Z.map pOf)).length+(partB (pOf z)).length
 | [],_,_=>by simp [bodyB]
 | y::Z,0,z=>by
  simp only [List.set_cons_zero,List.map_cons,bodyB,List.flatMap_cons,List.length_append]
  omega
 | y::Z,i+1,z=>by
  have ih:=zgn Z i z
  simp only [List.set_cons_succ,List.map_cons,bodyB,List.flatMap_cons,List.length_append] at ih ⊢
  omega
theorem zo9 (Z:List PartV) (k:Nat):(bodyB ((Z.take k).map pOf)).length<=(bodyB (Z.map pOf)).length:=by
 rw [List.map_take]
 exact z77 _ k
theorem zpx {Z:List PartV} {i:Nat} (h:i<Z.length):(partB (pOf (Z.getD i default))).length<=(bodyB (Z.map pOf)).length/\(Z.getD i default).data.length<=(bodyB (Z.map pOf)).length:=by
 have hm:pOf (Z.getD i default)∈Z.map pOf:=List.mem_map_of_mem (z0g h)
 obtain ⟨A,B,e⟩:=List.append_of_mem hm
 have e2:(bodyB (Z.map pOf)).length=(bodyB A).length+((partB (pOf (Z.getD i default))).length+(bodyB B).length):=by
  rw [e,bodyB,List.flatMap_append,List.flatMap_cons,List.length_append,List.length_append]
  rfl
 have h3:(Z.getD i default).data.length<=(texts (Z.getD i default).data).length:=by unfold texts;rw [List.length_append];omega
 have h4:(partB (pOf (Z.getD i default))).length=(texts (Z.getD i default).data).length+1:=rfl
 omega
theorem zoa (t:UInt8) (d:List UInt8) (h:d.length<=1000000):(partB (t,d)).length<=d.length+7:=by
 have:=z78 d h
 unfold partB
 rw [List.length_cons]
 dsimp only
 omega
theorem z6r {r:Hp} {w:Value} {Z:List PartV} {i:Nat} {z:PartV} {n:Nat} {g:Hp} (hZ : ∀ x∈Z,U8S r x.val x.data) (hz:U8S r z.val z.data) (hn:Z.length=n) (h:RowC 50 2 w n ((Z.set i z).flatMap encPa) g) (hs:sub g r):Parts r w (Z.set i z):=by
 refine ⟨⟨fun _=>rfl,by rw [List.length_set,hn];exact h.sl hs⟩,fun x hx=>?_⟩
 rcases List.mem_or_eq_of_mem_set hx with hx|rfl
 · exact hZ x hx
 · exact hz
theorem Sx.sw_dropT {P:Program} {l:Option Nat} {r:Hp} {Q:Exit->St} {t:List Value} {H H1:List Ch} {c:Code} (A:Ch) (ht:Take A H H1) (h:SW P l r c Q t H1):SW P l r c Q t H:=zn5 ht (zht h)
theorem zsq (fs:List FileV) (hs:sizeF fs<=1600) : ∃ B:List UInt8,B.length<=300008 /\ ∀ r v,Files r v fs->Tri Tryz.prog r 11 [v] [] fun w H => ∃ a c e,w = .tuple #[.slice a B.length c,.int .i64 e]/\H=[U8R (.slice a B.length c) B]:=by
 cases hok:filesOk fs
 · refine ⟨[],Nat.zero_le _,fun r v hv=>?_⟩
   have h:=z7m r v fs hv (by omega)
   rw [hok] at h
   simp only [Bool.false_eq_true,if_false] at h
   refine z60 h ?_
   rintro u H ⟨rfl,rfl⟩
   exact ⟨[U8R (.slice none 0 0) []],⟨none,0,2,rfl,rfl⟩,fun g e=>z11.2 (by have e:g=emp:=e;rw [e];exact RowC.nil _ _)⟩
 · refine ⟨shardB fs,z5p hs,fun r v hv=>?_⟩
   have h:=z7m r v fs hv (by omega)
   rw [hok] at h
   simp only [if_true] at h
   refine h.mono ?_
   rintro u H ⟨a,c,rfl,rfl⟩
   exact ⟨a,c,0,rfl,rfl⟩
theorem rgetU (b:List UInt8) (hb:b.length<=300008) : ∃ ps:List PartP,(bodyB ps).length<=300008/\ps.length<=300008 /\ ∀ r v,U8S r v b->Tri Tryz.prog r 20 [v] [] fun w H => ∃ a c e,w = .tuple #[.slice a ps.length c,.int .i64 e]/\H=[PrtC (.slice a ps.length c) ps]:=by
 cases hp:partsF b with
 | none =>
  refine ⟨[],Nat.zero_le _,Nat.zero_le _,fun r v hv=>?_⟩
  have h:=za3 r v b hv (by omega)
  rw [hp] at h
  refine z60 h ?_
  rintro u H ⟨rfl,rfl⟩
  exact ⟨[PrtC (.slice none 0 0) []],⟨none,0,9,rfl,rfl⟩,fun g e=>z11.2 ⟨[],rfl,by
   have e:g=emp:=e
   rw [e]
   exact ⟨emp,emp,z4u,z30.symm,RowC.nil _ _,emp,emp,z4u,z30.symm,rfl,rfl⟩⟩⟩
 | some ps =>
  have h1:=(z7q hp).2
  have h2:=zif b
  rw [← h1] at h2
  have h3:ps.length<=(bodyB ps).length:=by
   clear h1 h2 hp
   induction ps with
   | nil=>simp
   | cons p ps ih =>
    rw [show bodyB (p::ps)=partB p++bodyB ps from rfl,List.length_append,List.length_cons]
    have:1<=(partB p).length:=by simp [partB]
    omega
  refine ⟨ps,by omega,by omega,fun r v hv=>?_⟩
  have h:=za3 r v b hv (by omega)
  rw [hp] at h
  refine h.mono ?_
  rintro u H ⟨a,c,rfl,rfl⟩
  exact ⟨a,c,0,rfl,rfl⟩
end Go.Proofs.YtohpeoakdgckfaaGreat
