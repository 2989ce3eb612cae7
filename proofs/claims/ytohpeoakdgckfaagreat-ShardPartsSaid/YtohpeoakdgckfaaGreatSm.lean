/- shard.Make, mudlarkref23.Make: their contracts. -/
import Derived.Test.YtohpeoakdgckfaaGreatShb
import Derived.Test.YtohpeoakdgckfaaGreatLi
import Derived.Test.YtohpeoakdgckfaaGreatFm
import Derived.Test.YtohpeoakdgckfaaGreatGp
import Derived.Test.YtohpeoakdgckfaaGreatMr
import Derived.Test.YtohpeoakdgckfaaGreatKa
import Derived.Test.YtohpeoakdgckfaaGreatRy
import Derived.Test.YtohpeoakdgckfaaGreatQf
import Derived.Test.YtohpeoakdgckfaaGreatKm
set_option maxHeartbeats 4000000
set_option maxRecDepth 10000
namespace Go.Proofs.YtohpeoakdgckfaaGreat
open Go.RowKit Sx
def bytF (f:FileV):BytV:=⟨f.val,f.data⟩
theorem zcm {r:Hp} {v:Value} {a:Option Addr} {c:Nat} {fs:List FileV} {g:Hp} (hv:Files r v fs) (hA:RowC 26 1 (.slice a fs.length c) fs.length ((fs.map bytF).flatMap encBy) g) {r':Hp} (hr:sub r r') (hg:sub g r'):Rowz r' (.slice a fs.length c) (fs.map bytF) :=
 ⟨⟨fun _=>rfl,by rw [List.length_map];exact hA.sl hg⟩,fun x hx=>by
  obtain ⟨f,hf,rfl⟩:=List.mem_map.1 hx
  exact (hv.2 f hf).mono hr⟩
theorem dataF (fs:List FileV):(fs.map bytF).map (·.data)=fs.map (·.data):=by rw [List.map_map];rfl
theorem flatF (fs:List FileV):flatB (fs.map bytF)=contB fs:=by
 unfold flatB contB
 rw [List.flatMap_map]
 rfl
theorem zo4 {r' g:Hp} {a:Option Addr} {c:Nat} {ps:List PostP} (hA:PostC 145 149 (.slice a ps.length c) ps g) (hg:sub g r') (hok:postsOk [] ps=true) (hn:ps.length<=2000) (hl : ∀ x∈ps,x.2.length<=2000):Tri Tryz.prog r' 35 [.slice a ps.length c] [] fun w H => ∃ a c,w = .tuple #[.slice a (putB ps).length c,.int .i64 0]/\H=[U8R (.slice a (putB ps).length c) (putB ps)]:=by
 obtain ⟨Z,hZ,hB⟩:=hA
 obtain ⟨h1,h2⟩:=z25 (Z:=Z) hB hg (by rw [← hZ,List.length_map])
 rw [hZ] at h1
 have h:=zej r' _ (Z.map pvZ) h2 (fun x hx=>by
  have h3:unP x∈ps:=by rw [← h1];exact List.mem_map_of_mem hx
  have:=hl _ h3
  show (unP x).2.length<=10000
  omega) (by rw [List.length_map,show Z.length=ps.length by rw [← hZ,List.length_map]];omega)
 rw [h1,show putE ps=(putB ps,0) by unfold putE;rw [if_pos hok]] at h
 exact h
theorem zpu {r:Hp} {b:Nat} {v1 v2 v3 v4:Value} {l1 l2 l3 l4:List UInt8} (h:r b=some (.cells [.int .u8 1,v1,.int .u8 2,v2,.int .u8 3,v3,.int .u8 4,v4].toArray 50 (0,0))) (h1:U8S r v1 l1) (h2:U8S r v2 l2) (h3:U8S r v3 l3) (h4:U8S r v4 l4) :
 Parts r (.slice (some ⟨b,0,none⟩) 4 4) [⟨1,v1,l1⟩,⟨2,v2,l2⟩,⟨3,v3,l3⟩,⟨4,v4,l4⟩] :=
 ⟨⟨fun _=>rfl,Sl.lit (n:=4) h rfl (by simp [maxLen])⟩,fun x hx=>by
  simp only [List.mem_cons,List.not_mem_nil,or_false] at hx
  rcases hx with rfl|rfl|rfl|rfl
  · exact h1
  · exact h2
  · exact h3
  · exact h4⟩
theorem fput4 (r:Hp) (bz:Nat) (v1 v2 v3 v4:Value) (l1 l2 l3 l4:List UInt8) (hb:(bodyB [(1,l1),(2,l2),(3,l3),(4,l4)]).length<=1000000):Tri Tryz.prog r 37 [.slice (some ⟨bz,0,none⟩) 4 4] [U8R v1 l1,U8R v2 l2,U8R v3 l3,U8R v4 l4,pt bz (.cells [.int .u8 1,v1,.int .u8 2,v2,.int .u8 3,v3,.int .u8 4,v4].toArray 50 (0,0))] fun w H => ∃ a c,w = .tuple #[.slice a (frameB [(1,l1),(2,l2),(3,l3),(4,l4)]).length c,.int .i64 0]/\H=[U8R (.slice a (frameB [(1,l1),(2,l2),(3,l3),(4,l4)]).length c) (frameB [(1,l1),(2,l2),(3,l3),(4,l4)])]:=by
 refine Tri.frz fun r1 g1 _ hg1 h1=>Tri.frz fun r2 g2 hr2 hg2 h2=>Tri.frz fun r3 g3 hr3 hg3 h3=>Tri.frz fun r4 g4 hr4 hg4 h4=>Tri.frz fun r5 g5 hr5 hg5 h5=>?_
 have hb5:r5 bz=some _:=hg5 _ _ (by rw [h5];exact z0h)
 exact znx r5 _ _ (zpu hb5 (((((h1.sl hg1).mono hr2).mono hr3).mono hr4).mono hr5) ((((h2.sl hg2).mono hr3).mono hr4).mono hr5) (((h3.sl hg3).mono hr4).mono hr5) ((h4.sl hg4).mono hr5)) hb (by simp)
theorem zpv (r:Hp) (bz:Nat) (v1 v2 v3 v4:Value) (l1 l2 l3 l4:List UInt8) (hb:(bodyB [(1,l1),(2,l2),(3,l3),(4,l4)]).length<=1000000):Tri Tryz.prog r 21 [.slice (some ⟨bz,0,none⟩) 4 4] [U8R v1 l1,U8R v2 l2,U8R v3 l3,U8R v4 l4,pt bz (.cells [.int .u8 1,v1,.int .u8 2,v2,.int .u8 3,v3,.int .u8 4,v4].toArray 50 (0,0))] fun w H => ∃ a c,w = .tuple #[.slice a (frameB [(1,l1),(2,l2),(3,l3),(4,l4)]).length c,.int .i64 0]/\H=[U8R (.slice a (frameB [(1,l1),(2,l2),(3,l3),(4,l4)]).length c) (frameB [(1,l1),(2,l2),(3,l3),(4,l4)])]:=by
 refine Tri.frz fun r1 g1 _ hg1 h1=>Tri.frz fun r2 g2 hr2 hg2 h2=>Tri.frz fun r3 g3 hr3 hg3 h3=>Tri.frz fun r4 g4 hr4 hg4 h4=>Tri.frz fun r5 g5 hr5 hg5 h5=>?_
 have hb5:r5 bz=some _:=hg5 _ _ (by rw [h5];exact z0h)
 exact ze1 r5 _ _ (zpu hb5 (((((h1.sl hg1).mono hr2).mono hr3).mono hr4).mono hr5) ((((h2.sl hg2).mono hr3).mono hr4).mono hr5) (((h3.sl hg3).mono hr4).mono hr5) ((h4.sl hg4).mono hr5)) hb (by simp)
theorem ze5 {r g:Hp} {a:Option Addr} {c:Nat} {fs:List FileV} (hA:DocR (.slice a fs.length c) (fs.map docOf) g) (hg:sub g r):Docs r (.slice a fs.length c) (fs.map docOf):=⟨fun _=>rfl,hA.sl hg⟩
theorem z9k {fs:List FileV} {k:Nat} (h:k<fs.length):risesB (fs.take (k+1))=risesB (fs.take k)++risingB (linesOf (fs.getD k default).data):=by
 unfold risesB
 rw [z10 (d:=default) h,List.flatMap_append]
 simp
theorem ze6 (fs:List FileV) (k:Nat):(risesB (fs.take k)).length<=(risesB fs).length:=by
 have e:risesB fs=risesB (fs.take k)++risesB (fs.drop k):=by
  unfold risesB
  rw [← List.flatMap_append,List.take_append_drop]
 rw [e,List.length_append]
 omega
theorem ze7 (r:Hp) (v:Value) (fs:List FileV) (hv:Files r v fs) (hs:sizeF fs<=2000):Tri Tryz.prog r 10 [v] [] fun w H =>
 if filesOk fs then ∃ a c,w = .tuple #[.slice a (shardB fs).length c,.int .i64 0]/\H=[U8R (.slice a (shardB fs).length c) (shardB fs)] else w = .tuple #[.slice none 0 0,.int .i64 2]/\H=[]:=by
 refine Tri.free2 fun R HR=>?_
 have hve:=hv.1
 have hfl:=z22 fs
 have hmem:=fun f (hf:f∈fs)=>z4x hf
 have hof:=of_any' r v fs hv (fun f hf=>by have:=hmem f hf;omega)
 cases hok:filesOk fs
 · rw [hok] at hof HR
   simp only [Bool.false_eq_true,if_false] at hof HR
   refine ae Tryz.func10 Tryz.ntmps10 ?_
   repeat' (first|(refine acl Tryz.func31 ?_;refine acr (hof) ?_;rintro v' H' ⟨rfl,rfl⟩;refine apl ?_)|refine aw0 ?_|(refine ap2 ?_ ?_<;>try intro h)|refine aw1 ?_|(refine abx ?_;intro bb)|(refine abz ?_;intro bz)|(refine ahv ?_;intro v' hv')|(refine aac ?_;intro ac cc)|refine aw2 ?_|(refine ap4 ?_ ?_<;>try intro h)|apply True.intro)
   ((with_reducible apply z00);exact res_2 rfl rfl rfl)
   exact HR.out _ _ _ [] atks ⟨rfl,rfl⟩
 · rw [hok] at hof HR
   simp only [if_true] at hof HR
   refine ae Tryz.func10 Tryz.ntmps10 ?_
   refine z0f (A:=U8R (.slice none 0 0) []) (RowC.nil _ _) ?_
   refine z0f (A:=RowC 26 1 (.slice none 0 0) 0 []) (RowC.nil _ _) ?_
   repeat' (first|(refine acl Tryz.func31 ?_;refine acr (hof) ?_;rintro v' H' ⟨a1,c1,rfl,rfl⟩;refine apl ?_)|((with_reducible apply z0c (E:=70));exact z0l;(exact qcl);intro bw;(refine apk ?_))|refine aw0 ?_|(refine ap2 ?_ ?_<;>try intro h)|refine aw1 ?_|(refine abx ?_;intro bb)|(refine abz ?_;intro bz)|(refine ahv ?_;intro v' hv')|(refine aac ?_;intro ac cc)|refine aw2 ?_|(refine ap4 ?_ ?_<;>try intro h)|apply True.intro)
   refine z04 (fun gm t H' => ∃ (k:Nat) (wv:Value) (a:Option Addr) (c:Nat),gm=fs.length+1 - k/\(k<=fs.length)/\(∃ G,Takes [pt bw (wri wv false),U8R wv (risesB (fs.take k)),RowC 26 1 (.slice a k c) k (((fs.take k).map bytF).flatMap encBy),DocR (.slice a1 fs.length c1) (fs.map docOf)] H' G)/\Sls t 62 [(4,.slice a1 fs.length c1),(6,.pointer (some ⟨bw,0,none⟩)),(7,.slice a k c),(22,v),(23,.int .i64 fs.length),(24,.int .i64 k)]) _ ⟨0,.slice none 0 0,none,0,rfl,Nat.zero_le _,⟨_,atks⟩,asls⟩ ?_
   rintro gm t H' ⟨k,wv,a,c,rfl,hk,⟨G,hp⟩,hs'⟩
   revert t;refine z06 ?_;iterate 56 intro uu'
   refine z01 hp ?_;clear hp
   have hrl:=ze6 fs k
   have hrl0:=z48 fs hs
   by_cases hlt:k<fs.length
   · have htk:=z9k hlt
     have hfk:=hmem _ (z0g hlt)
     have hvk:=hv.2 _ (z0g hlt)
     have hbt:((fs.take (k+1)).map bytF).flatMap encBy=((fs.take k).map bytF).flatMap encBy++[(fs.getD k default).val]:=by
      rw [z10 (d:=default) hlt,List.map_append,List.flatMap_append];rfl
     obtain ⟨f,hf⟩ : ∃ f,fs.getD k default=f:=⟨_,rfl⟩
     rw [hf] at htk hfk hvk hbt
     have hfe:encF f=[.string (bs f.path),f.val]:=rfl
     have hone:[f.val].all one?=true:=by rw [List.all_cons,hvk.one];rfl
     have hln:=fun r' (h:sub r r')=>ze4 r' f.val f.data (hvk.mono h) (by omega)
     have hll:=z6a f.data
     have hlo:=z7x f.data
     generalize linesOf f.data=L at htk hln hll hlo
     obtain ⟨W,hW⟩ : ∃ W,risesB (fs.take k)=W:=⟨_,rfl⟩
     rw [hW] at htk hrl ⊢
     repeat' (first|(rw [hf,hfe])|((with_reducible apply z0c (E:=45));exact z0l;(exact qcl);intro b9;(refine apk ?_))|(refine acl Tryz.func33 ?_;refine acr (hln _ (fun _ _ h=>h)) ?_;rintro v' H' ⟨a2,c2,rfl,rfl⟩;refine apl ?_)|((with_reducible refine z07 32 ?_);(with_reducible apply z05 (A:=NatR (.slice a2 L.length c2) L));(exact atk);intro r1 g1 hr1 hg1 hA1;(refine acl Tryz.func32 ?_;refine acr (zjr r1 bw wv W _ L f.data.length ⟨fun _=>rfl,hA1.sl hg1⟩ hlo (by omega) (by omega) (by omega)) ?_;rintro v' H' ⟨w2,rfl⟩;refine apl ?_))|(first|((with_reducible apply z0t);exact ty_el;exact z03;rfl;rfl;rfl;intro bz;(refine apk ?_))|((with_reducible apply z0y);exact ty_el;exact z03;rfl;rfl;rfl;intro bz;(refine apk ?_)))|((with_reducible refine z0u ?_);(with_reducible apply z0k [(bz,.cells [f.val].toArray 26 (0,0))]);(exact atks);intro r' hl';(with_reducible apply z0v (news:=[f.val]));exact ty_el;exact z03;rfl;rfl;rfl;rfl;exact (Sl.lit (n:=1) (Lent.h1 hl') rfl (by simp [maxLen]));(exact atk);exact hone;(unfold maxLen;omega);(omega);intro a' c';refine apm ?_)|exact xf|refine aw0 ?_|(refine ap2 ?_ ?_<;>try intro h)|refine aw1 ?_|(refine abx ?_;intro bb)|(refine abz ?_;intro bz)|(refine ahv ?_;intro v' hv')|(refine aac ?_;intro ac cc)|refine aw2 ?_|(refine ap4 ?_ ?_<;>try intro h)|apply True.intro)
     exact ⟨_,by omega,k+1,w2,a',c',rfl,by omega,⟨_,by rw [htk,hbt];exact atks⟩,asls⟩
   · obtain rfl:k=fs.length:=by omega
     rw [List.take_length] at hrl ⊢
     obtain ⟨hdo,hds⟩:=z4i hok
     obtain ⟨htot,hpo,hpl,hpm,hpb⟩:=z58 hs
     have hsp:=z49 hs
     have hcl:=z56 fs
     have hpu:=fun r' g (hg:sub g r') (hA:DocR (.slice a1 fs.length c1) (fs.map docOf) g)=>zrt r' (.slice a1 fs.length c1) (fs.map docOf) (ze5 hA hg) (fun d hd=>by
      obtain ⟨f,hf,rfl⟩:=List.mem_map.1 hd
      have:=hmem f hf
      show f.path.length<=1000000
      omega) hds
     simp only [hdo,if_true] at hpu
     have hmk:=fun r' g (hr:sub r r') (hg:sub g r') (hA:RowC 26 1 (.slice a fs.length c) fs.length ((fs.map bytF).flatMap encBy) g)=>zow r' (.slice a fs.length c) (fs.map bytF) (zcm hv hA hr hg) (by rw [List.length_map];omega) (by rw [dataF];rw [List.length_map] at htot ⊢;omega)
     have hcc:=fun r' g (hr:sub r r') (hg:sub g r') (hA:RowC 26 1 (.slice a fs.length c) fs.length ((fs.map bytF).flatMap encBy) g)=>z3y r' (.slice a fs.length c) (fs.map bytF) (zcm hv hA hr hg) (by rw [flatF];omega) (by rw [List.length_map];omega)
     simp only [dataF] at hmk
     simp only [flatF] at hcc
     rw [show shardB fs=frameB [(1,putBytes (fs.map docOf)),(2,contB fs),(3,risesB fs),(4,putB (makeP (fs.map (·.data))))] from rfl] at HR
     rw [show shardP fs=[(1,putBytes (fs.map docOf)),(2,contB fs),(3,risesB fs),(4,putB (makeP (fs.map (·.data))))] from rfl] at hsp
     clear htot hpb hcl hrl0
     generalize putBytes (fs.map docOf)=T at hpu HR hsp
     generalize contB fs=C at hcc HR hsp
     generalize risesB fs=L at hrl HR hsp ⊢
     generalize makeP (fs.map (·.data))=ps at hmk HR hsp hpo hpl hpm
     have hpp:=fun r' g a' c' (hA:PostC 145 149 (.slice a' ps.length c') ps g) (hg:sub g r')=>zo4 (r':=r') hA hg hpo hpl hpm
     generalize putB ps=P at hpp HR hsp
     have hll:L.length<=1000000:=by
      have h:=hsp
      simp only [bodyB,partB,texts,List.flatMap_cons,List.flatMap_nil,List.length_append,List.length_cons] at h
      omega
     repeat' (first|((with_reducible refine z07 34 ?_);(with_reducible apply z05 (A:=DocR (.slice a1 fs.length c1) (fs.map docOf)));(exact atk);intro r1 g1 hr1 hg1 hA1;(refine acl Tryz.func34 ?_;refine acr (hpu r1 g1 hg1 hA1) ?_;rintro v' H' ⟨a3,c3,rfl,rfl⟩;refine apl ?_))|((with_reducible refine z07 36 ?_);(with_reducible apply z05 (A:=RowC 26 1 (.slice a fs.length c) fs.length ((fs.map bytF).flatMap encBy)));(exact atk);intro r1 g1 hr1 hg1 hA1;(refine acl Tryz.func36 ?_;refine acr (hmk r1 g1 hr1 hg1 hA1) ?_;rintro v' H' ⟨a4,c4,rfl,rfl⟩;refine apl ?_))|((with_reducible refine z07 35 ?_);(with_reducible apply z05 (A:=PostC 145 149 (.slice a4 ps.length c4) ps));(exact atk);intro r1 g1 hr1 hg1 hA1;(refine acl Tryz.func35 ?_;refine acr (hpp r1 g1 a4 c4 hA1 hg1) ?_;rintro v' H' ⟨a5,c5,rfl,rfl⟩;refine apl ?_))|((with_reducible refine z07 38 ?_);(with_reducible apply z05 (A:=RowC 26 1 (.slice a fs.length c) fs.length ((fs.map bytF).flatMap encBy)));(exact atk);intro r1 g1 hr1 hg1 hA1;(refine acl Tryz.func38 ?_;refine acr (hcc r1 g1 hr1 hg1 hA1) ?_;rintro v' H' ⟨a6,c6,rfl,rfl⟩;refine apl ?_))|(refine acl Tryz.func39 ?_;refine acr (z3h r bw wv L (by omega)) ?_;rintro v' H' ⟨a7,c7,rfl,rfl⟩;refine apl ?_)|(refine acl Tryz.func37 ?_;refine acr (fput4 r bz (.slice a3 T.length c3) (.slice a6 C.length c6) (.slice a7 L.length c7) (.slice a5 P.length c5) T C L P hsp) ?_;rintro v' H' ⟨a8,c8,rfl,rfl⟩;refine apl ?_)|exact xf|refine aw0 ?_|(refine ap2 ?_ ?_<;>try intro h)|refine aw1 ?_|(refine abx ?_;intro bb)|(refine abz ?_;intro bz)|(refine ahv ?_;intro v' hv')|(refine aac ?_;intro ac cc)|refine aw2 ?_|(refine ap4 ?_ ?_<;>try intro h)|apply True.intro)
     ((with_reducible apply z00);exact res_2 rfl rfl rfl)
     exact HR.out _ _ _ [U8R _ _] atks ⟨_,_,rfl,rfl⟩
theorem zlh {r' g:Hp} {a:Option Addr} {c:Nat} {ps:List PostP} (hA:PostC 145 149 (.slice a ps.length c) ps g) (hg:sub g r') (hok:postsOk [] ps=true) (hn:ps.length<=2000) (hl : ∀ x∈ps,x.2.length<=2000):Tri Tryz.prog r' 42 [.slice a ps.length c] [] fun w H => ∃ a c,w = .tuple #[.slice a (putB ps).length c,.int .i64 0]/\H=[U8R (.slice a (putB ps).length c) (putB ps)]:=by
 obtain ⟨Z,hZ,hB⟩:=hA
 obtain ⟨h1,h2⟩:=z25 (Z:=Z) hB hg (by rw [← hZ,List.length_map])
 rw [hZ] at h1
 have h:=zju r' _ (Z.map pvZ) h2 (fun x hx=>by
  have h3:unP x∈ps:=by rw [← h1];exact List.mem_map_of_mem hx
  have:=hl _ h3
  show (unP x).2.length<=10000
  omega) (by rw [List.length_map,show Z.length=ps.length by rw [← hZ,List.length_map]];omega)
 rw [h1,show putE ps=(putB ps,0) by unfold putE;rw [if_pos hok]] at h
 exact h
theorem zli {fs:List FileV} {k:Nat} (h:k<fs.length):((fs.take (k+1)).map bytF).flatMap encBy=((fs.take k).map bytF).flatMap encBy++[(fs.getD k default).val]:=by
 rw [z10 (d:=default) h,List.map_append,List.flatMap_append];rfl
theorem z6q (r:Hp) (v:Value) (fs:List FileV) (hv:Files r v fs) (hn:fs.length<=1000000):Tri Tryz.prog r 44 [v] [] fun w H => ∃ a c,w = .slice a fs.length c/\H=[RowC 26 1 w fs.length ((fs.map bytF).flatMap encBy)]:=by
 refine Tri.free2 fun R HR=>?_
 have hve:=hv.1
 refine ae Tryz.func44 Tryz.ntmps44 ?_
 refine z0f (A:=RowC 26 1 (.slice none 0 0) 0 []) (RowC.nil _ _) ?_
 repeat' (first|refine aw0m ?_|(refine ap2 ?_ ?_<;>try intro h)|refine aw1m ?_|(refine abx ?_;intro bb)|(refine abz ?_;intro bz)|(refine ahv ?_;intro v' hv')|(refine aac ?_;intro ac cc)|refine aw2 ?_|(refine ap4 ?_ ?_<;>try intro h)|apply True.intro)
 refine z04 (fun gm t H' => ∃ (k:Nat) (a:Option Addr) (c:Nat),gm=fs.length+1 - k/\(k<=fs.length)/\(∃ G,Takes [RowC 26 1 (.slice a k c) k (((fs.take k).map bytF).flatMap encBy)] H' G)/\Sls t 20 [(0,v),(3,.slice a k c),(4,.int .i64 k)]) _ ⟨0,none,0,rfl,Nat.zero_le _,⟨_,atks⟩,asls⟩ ?_
 rintro gm t H' ⟨k,a,c,rfl,hk,⟨G,hp⟩,hs'⟩
 revert t;refine z06 ?_;iterate 17 intro uu'
 refine z01 hp ?_;clear hp
 by_cases hlt:k<fs.length
 · have hvk:=hv.2 _ (z0g hlt)
   have hbt:=zli hlt
   obtain ⟨u,hu⟩ : ∃ u,(fs.getD k default).val=u:=⟨_,rfl⟩
   rw [hu] at hvk hbt
   have hone:[u].all one?=true:=by rw [List.all_cons,hvk.one];rfl
   repeat' (first|(rw [hu])|(first|((with_reducible apply z0t);exact ty_el;exact z03;rfl;rfl;rfl;intro bz;(refine apk ?_))|((with_reducible apply z0y);exact ty_el;exact z03;rfl;rfl;rfl;intro bz;(refine apk ?_)))|((with_reducible refine z0u ?_);(with_reducible apply z0k [(bz,.cells [u].toArray 26 (0,0))]);(exact atks);intro r' hl';(with_reducible apply z0v (news:=[u]));exact ty_el;exact z03;rfl;rfl;rfl;rfl;exact (Sl.lit (n:=1) (Lent.h1 hl') rfl (by simp [maxLen]));(exact atk);exact hone;(unfold maxLen;omega);(omega);intro a' c';refine apm ?_)|exact xf|refine aw0 ?_|(refine ap2 ?_ ?_<;>try intro h)|refine aw1 ?_|(refine abx ?_;intro bb)|(refine abz ?_;intro bz)|(refine ahv ?_;intro v' hv')|(refine aac ?_;intro ac cc)|refine aw2 ?_|(refine ap4 ?_ ?_<;>try intro h)|apply True.intro)
   exact ⟨_,by omega,k+1,a',c',rfl,by omega,⟨_,by rw [hbt];exact atks⟩,asls⟩
 · obtain rfl:k=fs.length:=by omega
   rw [List.take_length]
   repeat' (first|exact xf|refine aw0 ?_|(refine ap2 ?_ ?_<;>try intro h)|refine aw1 ?_|(refine abx ?_;intro bb)|(refine abz ?_;intro bz)|(refine ahv ?_;intro v' hv')|(refine aac ?_;intro ac cc)|refine aw2 ?_|(refine ap4 ?_ ?_<;>try intro h)|apply True.intro)
   ((with_reducible apply z00);exact res_1 rfl rfl)
   exact HR.out _ _ _ [RowC _ _ _ _ _] atks ⟨_,_,rfl,rfl⟩
theorem zjs {fs:List FileV} {k:Nat} (h:k<fs.length):contB (fs.take (k+1))=contB (fs.take k)++(fs.getD k default).data:=by
 unfold contB
 rw [z10 (d:=default) h,List.flatMap_append]
 simp
theorem zo5 (fs:List FileV) (k:Nat):(contB (fs.take k)).length<=(contB fs).length:=by
 have e:contB fs=contB (fs.take k)++contB (fs.drop k):=by
  unfold contB
  rw [← List.flatMap_append,List.take_append_drop]
 rw [e,List.length_append]
 omega
theorem z7m (r:Hp) (v:Value) (fs:List FileV) (hv:Files r v fs) (hs:sizeF fs<=2000):Tri Tryz.prog r 11 [v] [] fun w H =>
 if filesOk fs then ∃ a c,w = .tuple #[.slice a (shardB fs).length c,.int .i64 0]/\H=[U8R (.slice a (shardB fs).length c) (shardB fs)] else w = .tuple #[.slice none 0 0,.int .i64 2]/\H=[]:=by
 refine Tri.free2 fun R HR=>?_
 have hve:=hv.1
 have hfl:=z22 fs
 have hmem:=fun f (hf:f∈fs)=>z4x hf
 have hof:=zf1 r v fs hv (fun f hf=>by have:=hmem f hf;omega)
 rw [za8] at hof
 cases hok:filesOk fs
 · rw [hok] at hof HR
   simp only [Bool.false_eq_true,if_false] at hof HR
   refine ae Tryz.func11 Tryz.ntmps11 ?_
   repeat' (first|(refine acl Tryz.func40 ?_;refine acr (hof) ?_;rintro v' H' ⟨rfl,rfl⟩;refine apl ?_)|refine aw0 ?_|(refine ap2 ?_ ?_<;>try intro h)|refine aw1 ?_|(refine abx ?_;intro bb)|(refine abz ?_;intro bz)|(refine ahv ?_;intro v' hv')|(refine aac ?_;intro ac cc)|refine aw2 ?_|(refine ap4 ?_ ?_<;>try intro h)|apply True.intro)
   ((with_reducible apply z00);exact res_2 rfl rfl rfl)
   exact HR.out _ _ _ [] atks ⟨rfl,rfl⟩
 · rw [hok] at hof HR
   simp only [if_true] at hof HR
   obtain ⟨hdo,hds⟩:=z4i hok
   obtain ⟨htot,hpo,hpl,hpm,hpb⟩:=z58 hs
   have hsp:=z49 hs
   have hcl:=z56 fs
   have hrl0:=z48 fs hs
   have hpu:=fun r' g a1 c1 (hg:sub g r') (hA:DocR (.slice a1 fs.length c1) (fs.map docOf) g)=>zoo r' (.slice a1 fs.length c1) (fs.map docOf) (ze5 hA hg) (fun d hd=>by
    obtain ⟨f,hf,rfl⟩:=List.mem_map.1 hd
    have:=hmem f hf
    show f.path.length<=1000000
    omega) hds
   simp only [hdo,if_true] at hpu
   have hmk:=fun r' g a c (hr:sub r r') (hg:sub g r') (hA:RowC 26 1 (.slice a fs.length c) fs.length ((fs.map bytF).flatMap encBy) g)=>zdr r' (.slice a fs.length c) (fs.map bytF) (zcm hv hA hr hg) (by rw [List.length_map];omega) (by rw [dataF];rw [List.length_map] at htot ⊢;omega)
   simp only [dataF] at hmk
   have hco:=z6q r v fs hv (by omega)
   have hsh:shardB fs=frameB [(1,putBytes (fs.map docOf)),(2,contB fs),(3,risesB fs),(4,putB (makeP (fs.map (·.data))))]:=rfl
   rw [show shardP fs=[(1,putBytes (fs.map docOf)),(2,contB fs),(3,risesB fs),(4,putB (makeP (fs.map (·.data))))] from rfl] at hsp
   rw [hsh] at HR
   clear htot hpb hsh
   generalize putBytes (fs.map docOf)=T at hpu HR hsp
   generalize makeP (fs.map (·.data))=ps at hmk HR hsp hpo hpl hpm
   have hpp:=fun r' g a' c' (hA:PostC 145 149 (.slice a' ps.length c') ps g) (hg:sub g r')=>zlh (r':=r') hA hg hpo hpl hpm
   generalize putB ps=P at hpp HR hsp
   refine ae Tryz.func11 Tryz.ntmps11 ?_
   refine z0f (A:=U8R (.slice none 0 0) []) (RowC.nil _ _) ?_
   refine z0f (A:=RowC 5 1 (.slice none 0 0) 0 []) (RowC.nil _ _) ?_
   repeat' (first|(refine acl Tryz.func40 ?_;refine acr (hof) ?_;rintro v' H' ⟨a1,c1,rfl,rfl⟩;refine apl ?_)|((with_reducible refine z07 41 ?_);(with_reducible apply z05 (A:=DocR (.slice a1 fs.length c1) (fs.map docOf)));(exact atk);intro r1 g1 hr1 hg1 hA1;(refine acl Tryz.func41 ?_;refine acr (hpu r1 g1 a1 c1 hg1 hA1) ?_;rintro v' H' ⟨a3,c3,rfl,rfl⟩;refine apl ?_))|(refine acl Tryz.func44 ?_;refine acr (hco) ?_;rintro v' H' ⟨a2,c2,rfl,rfl⟩;refine apl ?_)|((with_reducible refine z07 43 ?_);(with_reducible apply z05 (A:=RowC 26 1 (.slice a2 fs.length c2) fs.length ((fs.map bytF).flatMap encBy)));(exact atk);intro r1 g1 hr1 hg1 hA1;(refine acl Tryz.func43 ?_;refine acr (hmk r1 g1 a2 c2 hr1 hg1 hA1) ?_;rintro v' H' ⟨a4,c4,rfl,rfl⟩;refine apl ?_))|((with_reducible refine z07 42 ?_);(with_reducible apply z05 (A:=PostC 145 149 (.slice a4 ps.length c4) ps));(exact atk);intro r1 g1 hr1 hg1 hA1;(refine acl Tryz.func42 ?_;refine acr (hpp r1 g1 a4 c4 hA1 hg1) ?_;rintro v' H' ⟨a5,c5,rfl,rfl⟩;refine apl ?_))|((with_reducible apply z2w);rfl;(exact qcl);intro bw;(refine apk ?_))|refine aw0 ?_|(refine ap2 ?_ ?_<;>try intro h)|refine aw1 ?_|(refine abx ?_;intro bb)|(refine abz ?_;intro bz)|(refine ahv ?_;intro v' hv')|(refine aac ?_;intro ac cc)|refine aw2 ?_|(refine ap4 ?_ ?_<;>try intro h)|apply True.intro)
   refine z04 (fun gm t H' => ∃ (k:Nat) (wv:Value) (a:Option Addr) (c:Nat),gm=fs.length+1 - k/\(k<=fs.length)/\(∃ G,Takes [pt bw (rwr wv false),U8R wv (risesB (fs.take k)),U8R (.slice a (contB (fs.take k)).length c) (contB (fs.take k)),U8R (.slice a3 T.length c3) T,U8R (.slice a5 P.length c5) P] H' G)/\Sls t 71 [(0,v),(6,.slice a3 T.length c3),(8,.slice a5 P.length c5),(10,.pointer (some ⟨bw,0,none⟩)),(11,.slice a (contB (fs.take k)).length c),(12,.int .i64 k)]) _ ⟨0,.slice none 0 0,none,0,rfl,Nat.zero_le _,⟨_,atks⟩,asls⟩ ?_
   rintro gm t H' ⟨k,wv,a,c,rfl,hk,⟨G,hp⟩,hs'⟩
   revert t;refine z06 ?_;iterate 65 intro uu'
   refine z01 hp ?_;clear hp
   have hrl:=ze6 fs k
   have hcl2:=zo5 fs k
   by_cases hlt:k<fs.length
   · have htk:=z9k hlt
     have hck:=zjs hlt
     have hfk:=hmem _ (z0g hlt)
     have hvk:=hv.2 _ (z0g hlt)
     obtain ⟨f,hf⟩ : ∃ f,fs.getD k default=f:=⟨_,rfl⟩
     have hfv:(fs.getD k default).val=f.val:=by rw [hf]
     rw [hf] at htk hfk hvk hck
     have hln:=zaz r f.val f.data hvk (by omega)
     have hll:=z6a f.data
     have hlo:=z7x f.data
     generalize linesOf f.data=L at htk hln hll hlo
     obtain ⟨W,hW⟩ : ∃ W,risesB (fs.take k)=W:=⟨_,rfl⟩
     obtain ⟨C,hC⟩ : ∃ C,contB (fs.take k)=C:=⟨_,rfl⟩
     rw [hW] at htk hrl ⊢
     rw [hC] at hck hcl2 ⊢
     have hckl:=congrArg List.length hck
     rw [List.length_append] at hckl
     repeat' (first|(rw [hfv])|(refine acl Tryz.func46 ?_;refine acr (hln) ?_;rintro v' H' ⟨a6,c6,rfl,rfl⟩;refine apl ?_)|((with_reducible refine z07 45 ?_);(with_reducible apply z05 (A:=NatR (.slice a6 L.length c6) L));(exact atk);intro r1 g1 hr1 hg1 hA1;(refine acl Tryz.func45 ?_;refine acr (zgm r1 bw wv W _ L f.data.length ⟨fun _=>rfl,hA1.sl hg1⟩ hlo (by omega) (by omega) (by omega)) ?_;rintro v' H' ⟨w2,rfl⟩;refine apl ?_))|((with_reducible refine z0u ?_);(with_reducible apply z0v (news:=u8s f.data));exact ty_el;exact z03;rfl;rfl;rfl;rfl;exact hvk;(exact atk);exact (z1y _);(unfold maxLen;omega);(omega);intro a' c';(refine apk ?_))|exact xf|refine aw0 ?_|(refine ap2 ?_ ?_<;>try intro h)|refine aw1 ?_|(refine abx ?_;intro bb)|(refine abz ?_;intro bz)|(refine ahv ?_;intro v' hv')|(refine aac ?_;intro ac cc)|refine aw2 ?_|(refine ap4 ?_ ?_<;>try intro h)|apply True.intro)
     exact ⟨_,by omega,k+1,w2,a',c',rfl,by omega,⟨_,by rw [htk,hck,zgh];exact atks⟩,asls⟩
   · obtain rfl:k=fs.length:=by omega
     rw [List.take_length] at hrl ⊢
     clear hrl0 hcl2
     generalize contB fs=C at HR hsp hcl ⊢
     generalize risesB fs=L at hrl HR hsp ⊢
     refine z1x (ι:=Option Addr × Nat) (B:=fun _=>[U8R wv L]) (φ:=fun i=>wv = .slice i.1 L.length i.2) atk z5m ?_
     rintro ⟨a7,c7⟩ rfl
     dsimp only [List.cons_append,List.nil_append]
     repeat' (first|(refine acl Tryz.func21 ?_;refine acr (zpv r bz (.slice a3 T.length c3) (.slice a C.length c) (.slice a7 L.length c7) (.slice a5 P.length c5) T C L P hsp) ?_;rintro v' H' ⟨a8,c8,rfl,rfl⟩;refine apl ?_)|exact xf|refine aw0 ?_|(refine ap2 ?_ ?_<;>try intro h)|refine aw1 ?_|(refine abx ?_;intro bb)|(refine abz ?_;intro bz)|(refine ahv ?_;intro v' hv')|(refine aac ?_;intro ac cc)|refine aw2 ?_|(refine ap4 ?_ ?_<;>try intro h)|apply True.intro)
     ((with_reducible apply z00);exact res_2 rfl rfl rfl)
     exact HR.out _ _ _ [U8R _ _] atks ⟨_,_,rfl,rfl⟩
end Go.Proofs.YtohpeoakdgckfaaGreat
