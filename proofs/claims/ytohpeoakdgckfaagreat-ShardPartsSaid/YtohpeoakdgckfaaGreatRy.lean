/- mudlarkref22.Put, Find: their contracts. -/
import Derived.Test.YtohpeoakdgckfaaGreatKm
import Derived.Test.YtohpeoakdgckfaaGreatPo
import Derived.Test.YtohpeoakdgckfaaGreatFw
import Derived.Test.YtohpeoakdgckfaaGreatKj
set_option maxHeartbeats 2000000
set_option maxRecDepth 10000
namespace Go.Proofs.YtohpeoakdgckfaaGreat
open Go.RowKit Sx
def goodDoc (d:DocV):Prop:=d.path.length<=200/\d.sum<4294967296/\0<=d.size/\d.size<=1048576/\d.lang=langOf d.path
theorem zom {d:DocV} (x:List UInt8) (h:goodDoc d):docR (some (putDoc d++x))=(d,some x):=by
 obtain ⟨h1,h2,h3,h4,h5⟩:=h
 obtain ⟨p,l,s,n⟩:=d
 obtain ⟨m,rfl⟩ : ∃ m:Nat,n=m:=⟨n.toNat,by simp at h3 ⊢;omega⟩
 dsimp only at *
 subst h5
 have e:=z1o (most:=1048576) (n:=m) x (by omega) (by unfold maxNum;omega)
 have e1:=z6h (most:=200) (fixed s++(septs m++x)) h1 (by unfold maxNum;omega)
 have e2:=zbz (septs m++x) h2
 rw [show ((1048576:Nat):Int)=1048576 from rfl] at e
 rw [show ((200:Nat):Int)=200 from rfl] at e1
 simp only [docR,putDoc,List.append_assoc,Int.toNat_natCast,e1,e2,e]
theorem zon {st:Option (List UInt8)} {d:DocV} {x:List UInt8} (h:docR st=(d,some x)):st=some (putDoc d++x):=by
 unfold docR at h
 obtain ⟨p,st1,e1⟩ : ∃ p s,textR 200 st=(p,s):=⟨_,_,rfl⟩
 rw [e1] at h
 dsimp only at h
 obtain ⟨c,st2,e2⟩ : ∃ p s,fixR st1=(p,s):=⟨_,_,rfl⟩
 rw [e2] at h
 dsimp only at h
 obtain ⟨n,st3,e3⟩ : ∃ p s,numR 1048576 st2=(p,s):=⟨_,_,rfl⟩
 rw [e3] at h
 dsimp only at h
 simp only [Prod.mk.injEq] at h
 obtain ⟨rfl,rfl⟩:=h
 obtain ⟨rfl,_⟩:=zdg (most:=1048576) e3
 have:=zpo e2
 subst this
 rw [z4e (most:=200) e1]
 simp [putDoc]
theorem zex : ∀ (ds:List DocV) (x:List UInt8),(∀ d∈ds,goodDoc d)->docsR ds.length (some (ds.flatMap putDoc++x))=(ds,some x)
 | [],x,_=>by simp [docsR]
 | d::ds,x,h=>by
  have e:=zom (ds.flatMap putDoc++x) (h d List.mem_cons_self)
  have ih:=zex ds x fun y hy=>h y (List.mem_cons_of_mem _ hy)
  rw [List.length_cons,List.flatMap_cons,List.append_assoc,z5l,e]
  simp [ih]
theorem zey : ∀ (n:Nat) (st:Option (List UInt8)) (ds:List DocV) (x:List UInt8),docsR n st=(ds,some x)->st=some (ds.flatMap putDoc++x)/\ds.length=n
 | 0,st,ds,x,h=>by simp [docsR] at h;obtain ⟨rfl,rfl⟩:=h;simp
 | n+1,st,ds,x,h=>by
  rw [z5l] at h
  split at h
  · simp at h
  · simp only [Prod.mk.injEq] at h
    obtain ⟨rfl,h2⟩:=h
    obtain ⟨i1,i2⟩:=zey n (docR st).2 (docsR n (docR st).2).1 x (by rw [← h2])
    refine ⟨?_,by simp [i2]⟩
    have i3:=zon (st:=st) (d:=(docR st).1) (x:=(docsR n (docR st).2).1.flatMap putDoc++x) (by rw [← i1])
    rw [List.flatMap_cons,List.append_assoc]
    exact i3
theorem zrc {b:List UInt8} (h:getOk b=true):putBytes (getDocs b).1=b:=by
 unfold getOk getDocs at *
 simp only [Bool.and_eq_true,decide_eq_true_eq] at h
 obtain ⟨n,st,e⟩ : ∃ n s,numR 4000 (some b)=(n,s):=⟨_,_,rfl⟩
 rw [e] at h ⊢
 dsimp only at h ⊢
 obtain ⟨ds,hd⟩ : ∃ ds,(docsR n st).1=ds:=⟨_,rfl⟩
 obtain ⟨i1,i2⟩:=zey n st ds [] (Prod.ext hd h.1)
 rw [hd]
 clear hd h
 subst i1
 obtain ⟨i3,_⟩:=zdg (most:=4000) e
 simp only [Option.some.injEq] at i3
 rw [putBytes,i2,i3]
 simp
theorem zbc {p:List UInt8} (h:pathOk p=true):p.length<=200:=by
 unfold pathOk at h
 simp only [Bool.and_eq_true,decide_eq_true_eq] at h
 exact h.1.2
theorem z9y : ∀ {ps:List (List UInt8)} {e p:List UInt8},ordOk e ps=true->p∈ps->pathOk p=true
 | [],_,_,_,h=>by cases h
 | q::ps,e,p,h,hp=>by
  unfold ordOk at h
  simp only [Bool.and_eq_true] at h
  rcases List.mem_cons.1 hp with rfl|hp
  · exact h.1.1
  · exact z9y h.2 hp
theorem zrd {ds:List DocV} (h:docsOk ds=true) (hs : ∀ d∈ds,d.sum<4294967296):getDocs (putBytes ds)=(ds,some []):=by
 unfold docsOk at h
 simp only [Bool.and_eq_true,decide_eq_true_eq] at h
 obtain ⟨⟨h1,h2⟩,h3⟩:=h
 have e:=z1o (most:=4000) (n:=ds.length) (ds.flatMap putDoc) h1 (by unfold maxNum;omega)
 rw [show ((4000:Nat):Int)=4000 from rfl] at e
 unfold getDocs putBytes
 simp only [e]
 have:=zex ds [] fun d hd=>⟨zbc (z9y h3 (List.mem_map.2 ⟨d,hd,rfl⟩)),hs d hd,?_⟩
 · simpa using this
 · simp only [Bool.not_eq_true',List.any_eq_false] at h2
   have:=h2 d hd
   simp [docBad] at this
   exact ⟨this.1.2,this.2,this.1.1⟩
theorem z4i {fs:List FileV} (h:filesOk fs=true):docsOk (fs.map docOf)=true /\ ∀ d∈fs.map docOf,d.sum<4294967296:=by
 unfold filesOk at h
 simp only [Bool.and_eq_true,decide_eq_true_eq,Bool.not_eq_true',List.any_eq_false] at h
 obtain ⟨⟨h1,h2⟩,h3⟩:=h
 refine ⟨?_,fun d hd=>?_⟩
 · unfold docsOk
   simp only [Bool.and_eq_true,decide_eq_true_eq,Bool.not_eq_true',List.any_eq_false,List.length_map]
   refine ⟨⟨h1,fun d hd=>?_⟩,by rw [List.map_map];exact h3⟩
   obtain ⟨f,hf,rfl⟩:=List.mem_map.1 hd
   have:=h2 f hf
   simp only [bigF,decide_eq_true_eq] at this
   have e1:decide ((docOf f).lang≠langOf (docOf f).path)=false:=by simp [docOf]
   have e2:decide ((docOf f).size<0)=false:=decide_eq_false (show ¬ ((f.data.length:Int)<0) by omega)
   have e3:decide (1048576<(docOf f).size)=false:=decide_eq_false (show ¬ ((1048576:Int)<(f.data.length:Int)) by omega)
   unfold docBad
   rw [e1,e2,e3]
   simp
 · obtain ⟨f,hf,rfl⟩:=List.mem_map.1 hd
   exact z8x (z3x _ _ (by omega))
theorem zm2 : ∀ ps:List PartP,(∀ p∈ps,p.2.length<=1000000)->pX (bodyB ps)=ps.map fun p=>(p,true)
 | [],_=>by rw [show bodyB []=[] from rfl,zf3];rfl
 | (t,d)::ps,h=>by
  have h1:=z6h (most:=67108864) (bodyB ps) (Nat.le_trans (h _ List.mem_cons_self) (by decide):d.length<=67108864) (by unfold maxNum;decide)
  rw [show bodyB ((t,d)::ps)=t::(texts d++bodyB ps) from rfl,pX_ok h1,zm2 ps fun p hp=>h p (List.mem_cons_of_mem _ hp)]
  rfl
theorem zcy {n:Nat} (h:n<4294967296) (x:List UInt8):(fixR (some (fixed n++x))).1=n:=by rw [zbz x h]
theorem zez {ps:List PartP} (h:(bodyB ps).length<=1000000) (hp : ∀ p∈ps,p.2.length<=1000000):partsF (frameB ps)=some ps:=by
 have h4 : ∀ n,(fixed n).length=4:=fun _=>rfl
 have hl:=z47 ps
 have hhd:(headB ps).length=(bodyB ps).length+4:=by unfold headB;rw [List.length_append,h4];omega
 have e1:(frameB ps).take ((frameB ps).length - 4)=headB ps:=by
  rw [hl,show (bodyB ps).length+8 - 4=(headB ps).length by omega]
  exact List.take_left
 have e2:(frameB ps).drop ((frameB ps).length - 4)=fixed (crcB (headB ps))++[]:=by
  rw [hl,show (bodyB ps).length+8 - 4=(headB ps).length by omega,List.append_nil]
  exact List.drop_left
 have e3:midF (frameB ps)=bodyB ps:=by
  unfold midF
  rw [show frameB ps=fixed ((bodyB ps).length+8)++(bodyB ps++fixed (crcB (headB ps))) by unfold frameB;rw [headB,List.append_assoc],show (4:Nat)=(fixed ((bodyB ps).length+8)).length from rfl,List.drop_left]
  rw [List.length_append,List.length_append,h4,h4,show 4+((bodyB ps).length+4) - 8=(bodyB ps).length by omega]
  exact List.take_left
 have hok:okF (frameB ps)=true:=by
  unfold okF
  rw [e1,e2,zcy (zgi _),decide_eq_true rfl,decide_eq_true (by omega:8<=(frameB ps).length)]
  rw [show (fixR (some (frameB ps))).1=(frameB ps).length by
   rw [hl]
   show (fixR (some ((fixed ((bodyB ps).length+8)++bodyB ps)++fixed (crcB (headB ps))))).1=_
   rw [List.append_assoc]
   exact zcy (by omega) _]
  simp
 unfold partsF
 rw [hok,e3,zm2 ps hp,List.map_map,show ((fun x:PartP × Bool=>x.1) ∘ fun p=>(p,true))=id from rfl,List.map_id]
 simp
theorem Sx.RowC.form {E:TypeId} {sz n:Nat} {v:Value} {xs:List Value} {g:Hp} (h:RowC E sz v n xs g) : ∃ a c,v = .slice a n c:=(h.sl (r:=g) (fun _ _ h=>h)).form
theorem zh2 {ds:List DocV} (h:docsOk ds=true):ds.length<=4000 /\ ∀ d∈ds,d.path.length<=200/\0<=d.size/\d.size<=1048576:=by
 unfold docsOk at h
 simp only [Bool.and_eq_true,decide_eq_true_eq] at h
 obtain ⟨⟨h1,h2⟩,h3⟩:=h
 refine ⟨h1,fun d hd=>⟨zbc (z9y h3 (List.mem_map.2 ⟨d,hd,rfl⟩)),?_⟩⟩
 simp only [Bool.not_eq_true',List.any_eq_false] at h2
 have:=h2 d hd
 simp [docBad] at this
 exact ⟨this.1.2,this.2⟩
theorem zoo (r:Hp) (v:Value) (ds:List DocV) (hv:Docs r v ds) (hl : ∀ x∈ds,x.path.length<=1000000) (hsum : ∀ x∈ds,x.sum<4294967296):Tri Tryz.prog r 41 [v] [] fun w H =>
 if docsOk ds then ∃ a c,w = .tuple #[.slice a (putBytes ds).length c,.int .i64 0]/\H=[U8R (.slice a (putBytes ds).length c) (putBytes ds)] else w = .tuple #[.slice none 0 0,.int .i64 2]/\H=[]:=by
 refine Tri.free2 fun R HR=>?_
 have hlm:=maxI hv.2.2.1
 have hrd:=zfi r v ds hv hl
 rw [zbo] at hrd
 cases hok:docsOk ds
 · rw [hok] at hrd HR
   refine ae Tryz.func41 Tryz.ntmps41 ?_
   repeat' (first|refine aw0m ?_|(refine ap2 ?_ ?_<;>try intro h)|(refine acl Tryz.func96 ?_;refine acr (hrd) ?_;rintro v' H' ⟨rfl,rfl⟩;refine apl ?_)|refine aw1m ?_|(refine abx ?_;intro bb)|(refine abz ?_;intro bz)|(refine ahv ?_;intro v' hv')|(refine aac ?_;intro ac cc)|refine aw2 ?_|(refine ap4 ?_ ?_<;>try intro h)|apply True.intro)
   ((with_reducible apply z00);exact res_2 rfl rfl rfl)
   exact HR.out _ _ _ [] atks ⟨rfl,rfl⟩
 · rw [hok] at hrd HR
   obtain ⟨hn4,heach⟩:=zh2 hok
   refine ae Tryz.func41 Tryz.ntmps41 ?_
   refine z0f (A:=U8R (.slice none 0 0) []) (RowC.nil _ _) ?_
   repeat' (first|(refine acl Tryz.func96 ?_;refine acr (hrd) ?_;rintro v' H' ⟨rfl,rfl⟩;refine apl ?_)|((with_reducible apply z2w);rfl;exact zfx;intro bw;(refine apk ?_))|(refine acl Tryz.func97 ?_;refine acr (z2r r bw (.slice none 0 0) [] ds.length (by unfold maxNum;omega) (by simp)) ?_;rintro v' H' ⟨v1,rfl⟩;refine apl ?_)|refine aw0 ?_|(refine ap2 ?_ ?_<;>try intro h)|refine aw1 ?_|(refine abx ?_;intro bb)|(refine abz ?_;intro bz)|(refine ahv ?_;intro v' hv')|(refine aac ?_;intro ac cc)|refine aw2 ?_|(refine ap4 ?_ ?_<;>try intro h)|apply True.intro)
   refine z04 (fun gm t H' => ∃ (k:Nat) (w:Value),gm=ds.length+1 - k/\(k<=ds.length)/\(∃ G,Takes [pt bw (rwr w false),U8R w (septs ds.length++(ds.take k).flatMap putDoc)] H' G)/\Sls t 47 [(0,v),(4,.pointer (some ⟨bw,0,none⟩)),(5,.int .i64 k)]) _ ⟨0,v1,rfl,Nat.zero_le _,⟨[],by rw [show (ds.take 0).flatMap putDoc=[] from rfl,List.append_nil];(exact atks)⟩,asls⟩ ?_
   rintro gm t H' ⟨k,w,rfl,hk,⟨G,hp⟩,hs'⟩
   revert t;refine z06 ?_;iterate 44 intro uu'
   refine z01 hp ?_;clear hp
   by_cases hlt:k<ds.length
   · have hmem:ds.getD k default∈ds:=by simp [hlt]
     obtain ⟨hp2,hz1,hz2⟩:=heach _ hmem
     have hs1:=hsum _ hmem
     have hsz:(ds.getD k default).size=((ds.getD k default).size.toNat:Nat):=by omega
     have hnext:septs ds.length++(ds.take k).flatMap putDoc++texts (ds.getD k default).path++fixed (ds.getD k default).sum++septs (ds.getD k default).size.toNat=septs ds.length++(ds.take (k+1)).flatMap putDoc:=by
      rw [z10 (d:=default) hlt,List.flatMap_append]
      simp [putDoc]
     have h6:=z09 (n:=ds.length) (by unfold maxNum;omega)
     have h7:=z6e (ds:=ds.take k) fun d hd=>by
      have:=heach d (List.mem_of_mem_take hd)
      exact ⟨by omega,this.2.2⟩
     have h8:(texts (ds.getD k default).path).length<=206:=by
      have:=z09 (n:=(ds.getD k default).path.length) (by unfold maxNum;omega)
      simp only [texts,List.length_append];omega
     have h9:(ds.take k).length<=4000:=by rw [List.length_take];omega
     have hL:(septs ds.length++(ds.take k).flatMap putDoc).length<=5000000000:=by rw [List.length_append];omega
     generalize septs ds.length++(ds.take k).flatMap putDoc=L at hnext hL
     repeat' (first|((with_reducible apply z05 (A:=RdC (.slice ac (ds.getD k default).path.length cc) (ds.getD k default).path));(exact atk);intro r1 g1 hr1 hg1 hA1;(refine acl Tryz.func65 ?_;refine acr (z7s r1 bw w L _ (ds.getD k default).path (Sl.mono hA1 hg1) (by omega) (by omega)) ?_;rintro v' H' ⟨v2,rfl⟩;refine apl ?_))|(refine acl Tryz.func66 ?_;refine acr (z68 r bw v2 (L++texts (ds.getD k default).path) (ds.getD k default).sum hs1 (by rw [List.length_append];omega)) ?_;rintro v' H' ⟨v3,rfl⟩;refine apl ?_)|(refine acl Tryz.func97 ?_;refine acr (by rw [hsz];exact z2r r bw v3 (L++texts (ds.getD k default).path++fixed (ds.getD k default).sum) (ds.getD k default).size.toNat (by unfold maxNum;omega) (by rw [List.length_append,List.length_append];simp only [fixed,List.length_cons,List.length_nil];omega)) ?_;rintro v' H' ⟨v4,rfl⟩;refine apl ?_)|refine aw0 ?_|(refine ap2 ?_ ?_<;>try intro h)|refine aw1 ?_|(refine abx ?_;intro bb)|(refine abz ?_;intro bz)|(refine ahv ?_;intro v' hv')|(refine aac ?_;intro ac cc)|refine aw2 ?_|(refine ap4 ?_ ?_<;>try intro h)|apply True.intro)
     exact ⟨_,by omega,k+1,v4,rfl,by omega,⟨_,by rw [← hnext];(exact atks)⟩,asls⟩
   · obtain rfl:k=ds.length:=by omega
     rw [List.take_length]
     refine zcb (A:=U8R w (septs ds.length++ds.flatMap putDoc)) atk (fun g h=>RowC.form h) ?_
     rintro ⟨a5,c5,rfl⟩
     repeat' (first|refine aw0m ?_|(refine ap2 ?_ ?_<;>try intro h)|refine aw1m ?_|(refine abx ?_;intro bb)|(refine abz ?_;intro bz)|(refine ahv ?_;intro v' hv')|(refine aac ?_;intro ac cc)|refine aw2 ?_|(refine ap4 ?_ ?_<;>try intro h)|apply True.intro)
     ((with_reducible apply z00);exact res_2 rfl rfl rfl)
     exact HR.out _ _ _ [RowC 5 1 _ _ _] atks ⟨a5,c5,rfl,rfl⟩
end Go.Proofs.YtohpeoakdgckfaaGreat
