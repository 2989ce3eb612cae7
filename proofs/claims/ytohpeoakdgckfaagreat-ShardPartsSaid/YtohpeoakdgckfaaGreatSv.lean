/- A shard as a value: its pieces, what it reads as. -/
import Derived.Test.YtohpeoakdgckfaaGreatFw
import Derived.Test.YtohpeoakdgckfaaGreatDb
import Derived.Test.YtohpeoakdgckfaaGreatRy
import Derived.Test.YtohpeoakdgckfaaGreatShb
import Derived.Test.YtohpeoakdgckfaaGreatKm
import Derived.Test.YtohpeoakdgckfaaGreatGp
import Derived.Test.YtohpeoakdgckfaaGreatSm
set_option maxHeartbeats 2000000
set_option maxRecDepth 10000
namespace Go.Proofs.YtohpeoakdgckfaaGreat
open Go.RowKit Sx
theorem Sx.Yld.up {P:Program} {r r':Hp} {k:Nat} {args:List Value} {J J1 Jx:Ch} (h:Yld P r k args J J1 Jx) (hs:sub r r'):Yld P r' k args J J1 Jx:=by
 intro w g o hj
 have hdj:dj r g:=fun b=>(o.dj b).imp_left fun c=>by
  cases e:r b with
  | none=>rfl
  | some u=>rw [hs b u e] at c;cases c
 have o':Ok none r [] w g:=⟨o.emb,fun b u e=>o.ro b u (hs b u e),hdj,trivial,fun _ c=>by cases c⟩
 obtain ⟨fn,tmps,assign,body,hrun,hR⟩:=h w g o' hj
 refine ⟨fn,tmps,assign,body,hrun,hR.mono ?_⟩
 rintro e w' ⟨bb,h',rfl,hJ,to⟩
 refine ⟨bb,h',rfl,hJ,⟨⟨to.ok.emb,fun b u e=>?_,fun b=>?_,trivial,fun _ c=>by cases c⟩,to.os,to.tape,to.output,to.size,to.keep,to.dom,to.grew⟩⟩
 · rw [to.keep b (o.ro.lt (by simp [e])) ((o.dj b).resolve_left (by simp [e]))];exact o.ro b u e
 · cases e:h' b with
   | none=>exact .inr rfl
   | some u =>
    left
    rcases to.dom b (by simp [e]) with c|c
    · exact (o.dj b).resolve_right c
    · cases e':r' b with
      | none=>rfl
      | some u'=>have:=o.ro.lt (b:=b) (by simp [e']);omega
def cutX:List DocV->List UInt8->List ((List UInt8 × List UInt8) × Bool)
 | [],_=>[]
 | d::ds,b=>((d.path,b.take (min d.size.toNat b.length)),decide (((min d.size.toNat b.length:Nat):Int)=d.size))::cutX ds (b.drop (min d.size.toNat b.length))
theorem z5n : ∀ (ds:List DocV) (b:List UInt8),(cutX ds b).length=ds.length
 | [],_=>rfl
 | d::ds,b=>by rw [cutX,List.length_cons,z5n ds,List.length_cons]
def argF (x:(List UInt8 × List UInt8) × Bool) (args:List Value) (C:List Ch):Prop := ∃ a c,args=[.agg [.string (bs x.1.1),.slice a x.1.2.length c].toArray,.bool x.2]/\C=[U8R (.slice a x.1.2.length c) x.1.2]
theorem zr2 (r:Hp) (b1 b2:Nat) (v1 v2:Value) (ds:List DocV) (b:List UInt8) (hd:Docs r v1 ds) (hb:U8S r v2 b) (hs : ∀ d∈ds,0<=d.size/\d.size<=1048576) (hl:b.length<=1000000) (hn:ds.length<=1000000):SeqG Tryz.prog r 189 [.pointer (some ⟨b1,0,none⟩),.pointer (some ⟨b2,0,none⟩)] argF (cutX ds b) [pt b1 (.cells [v1].toArray 66 (0,0)),pt b2 (.cells [v2].toArray 26 (0,0))] []:=by
 intro k J Jx hY
 refine Tri.free2 fun R HR=>?_
 rw [z5n] at HR
 refine ae Tryz.func189 Tryz.ntmps189 ?_
 repeat' (first|refine aw0m ?_|(refine ap2 ?_ ?_<;>try intro h)|refine aw1m ?_|(refine abx ?_;intro bb)|(refine abz ?_;intro bz)|(refine ahv ?_;intro v' hv')|(refine aac ?_;intro ac cc)|refine aw2 ?_|(refine ap4 ?_ ?_<;>try intro h)|apply True.intro)
 refine z04 (fun gm t H' => ∃ (j:Nat) (u:Value) (l:List UInt8),gm=ds.length+1 - j/\(j<=ds.length)/\((cutX ds b).drop j=cutX (ds.drop j) l)/\(U8S r u l)/\(l.length<=b.length)/\(∃ G,Takes [J j,pt b1 (.cells [v1].toArray 66 (0,0)),pt b2 (.cells [u].toArray 26 (0,0))] H' G)/\Sls t 36 [(0,.func (.yield k) #[] #[]),(2,.pointer (some ⟨b2,0,none⟩)),(7,v1),(8,.int .i64 ds.length),(9,.int .i64 j)]) _ ⟨0,v2,b,rfl,Nat.zero_le _,rfl,hb,Nat.le_refl _,⟨_,atks⟩,asls⟩ ?_
 rintro gm t H' ⟨j,u,l,rfl,hj,hX,hu,hll,⟨G,hp⟩,hs'⟩
 revert t;refine z06 ?_;iterate 31 intro uu'
 refine z01 hp ?_;clear hp
 by_cases hlt:j<ds.length
 · have hjX:j<(cutX ds b).length:=by rw [z5n];exact hlt
   have hds:=hs _ (z0g hlt)
   rw [List.drop_eq_getElem_cons hjX,List.drop_eq_getElem_cons hlt,show ds[j]=ds.getD j default by rw [List.getD_eq_getElem?_getD,List.getElem?_eq_getElem hlt];rfl] at hX
   obtain ⟨d,hdd⟩ : ∃ d,ds.getD j default=d:=⟨_,rfl⟩
   rw [hdd] at hds hX
   rw [cutX] at hX
   injection hX with hx hX2
   have hde:encD d=[.string (bs d.path),.string (bs d.lang),.int .u32 d.sum,.int .i64 d.size]:=rfl
   have hy:=fun a c=>hY j hjX _ _ ⟨a,c,rfl,rfl⟩
   rw [hx] at hy
   obtain ⟨m,hm⟩ : ∃ m,min d.size.toNat l.length=m:=⟨_,rfl⟩
   rw [hm] at hy hX2
   have hml:m<=l.length:=by omega
   have hmin:min d.size ((l.length:Nat):Int)=(m:Int):=by omega
   dsimp only at hy
   have hc1:List.take (((m:Nat):Int).toNat - Int.toNat 0) (List.drop (Int.toNat 0) l)=l.take m:=rfl
   have hc2:List.take (((l.length:Nat):Int).toNat - ((m:Nat):Int).toNat) (List.drop ((m:Nat):Int).toNat l)=l.drop m:=by
    rw [Int.toNat_natCast,Int.toNat_natCast]
    exact List.take_of_length_le (by rw [List.length_drop];omega)
   repeat' (first|(rw [hdd,hde])|(rw [hmin])|(rw [hc1] at hv')|(rw [hc2] at hv')|((with_reducible apply z0c (E:=119));exact z0l;(exact qcl);intro b5;(refine apk ?_))|((with_reducible apply z02 (id:=4) 14 [(0,true),(1,true),(2,true),(3,true),(4,true),(5,true),(8,true),(9,true),(10,true),(11,true),(6,false),(7,true),(12,false),(13,true)] [] [(b5,.cells [.string (bs d.path),.string (bs d.lang),.int .u32 d.sum,.int .i64 d.size].toArray 119 (0,0)),(b2,.cells [u].toArray 26 (0,0))]);kernel_rfl;(exact atks);kernel_rfl;intro r' hl')|(refine acl Tryz.func73 ?_;refine acr (z2u _ v' (l.take m) hv' (by rw [List.length_take];omega)) ?_;rintro v' H' ⟨a,c,rfl,rfl⟩;refine apl ?_)|((with_reducible apply zag);rfl;exact ((hy a c).up hl'.1);rfl;(exact atks);all_goals (refine apk ?_))|exact xf|refine aw0 ?_|(refine ap2 ?_ ?_<;>try intro h)|refine aw1 ?_|(refine abx ?_;intro bb)|(refine abz ?_;intro bz)|(refine ahv ?_;intro v' hv')|(refine aac ?_;intro ac cc)|refine aw2 ?_|(refine ap4 ?_ ?_<;>try intro h)|apply True.intro)
   · exact ⟨_,by omega,j+1,v',l.drop m,rfl,by omega,hX2,hv',by rw [List.length_drop];omega,⟨_,atks⟩,asls⟩
   · ((with_reducible apply z00);exact res_0 rfl)
     exact HR.out _ _ _ [Jx (j+1)] atks (.inr ⟨j,[],by first|exact hjX|exact hlt,rfl⟩)
 · obtain rfl:j=ds.length:=by omega
   repeat' (first|exact xf|refine aw0 ?_|(refine ap2 ?_ ?_<;>try intro h)|refine aw1 ?_|(refine abx ?_;intro bb)|(refine abz ?_;intro bz)|(refine ahv ?_;intro v' hv')|(refine aac ?_;intro ac cc)|refine aw2 ?_|(refine ap4 ?_ ?_<;>try intro h)|apply True.intro)
   ((with_reducible apply z1k);exact res_0 rfl)
   exact HR.out _ _ _ [J _] atks (.inl rfl)
abbrev KeyF:=List UInt8 × List UInt8
def unK (k:KeyF):FileV:=⟨k.1,.slice none 0 0,k.2⟩
theorem z4h (ks:List KeyF):(ks.map unK).map FileV.key=ks:=by
 rw [List.map_map,show FileV.key ∘ unK=id from rfl,List.map_id]
theorem z8z (fs:List FileV):fs.map (·.data)=(fs.map FileV.key).map (·.2):=by rw [List.map_map];rfl
theorem z7p {fs gs:List FileV} (h:fs.map FileV.key=gs.map FileV.key):shardB fs=shardB gs:=by
 have h1 : ∀ x:List FileV,shardP x=[(1,putBytes ((x.map FileV.key).map docOfK)),(2,(x.map FileV.key).flatMap (·.2)),(3,(x.map FileV.key).flatMap fun k=>risingB (linesOf k.2)),(4,putB (makeP ((x.map FileV.key).map (·.2))))]:=fun x=>by
  unfold shardP contB risesB
  rw [za9,z8z,List.flatMap_map,List.flatMap_map]
 unfold shardB
 rw [h1,h1,h]
theorem z3j : ∀ fs:List FileV,sizeF fs=sizeF ((fs.map FileV.key).map unK)
 | []=>rfl
 | f::fs=>by
  have h:=z3j fs
  simp only [List.map_cons,sizeF,unK]
  omega
theorem zpy : ∀ l:List UInt8,(pX l).all (·.2)=true->bodyB ((pX l).map (·.1))=l
 | [],_=>by rw [zf3];rfl
 | t::l,h=>by
  obtain ⟨d,st,e⟩ : ∃ d st,textR 67108864 (some l)=(d,st):=⟨_,_,rfl⟩
  cases st with
  | none=>rw [zf4 e] at h;simp at h
  | some rest =>
   have h1:=z4e (most:=67108864) e
   have h2:l=texts d++rest:=by injection h1
   rw [pX_ok e] at h ⊢
   simp only [List.all_cons,Bool.true_and] at h
   have ih:=zpy rest h
   rw [List.map_cons,show bodyB ((t,d)::(pX rest).map (·.1))=t::(texts d++bodyB ((pX rest).map (·.1))) from rfl,ih,← h2]
termination_by l=>l.length
decreasing_by
 rw [h2,List.length_cons,List.length_append]
 omega
theorem z7q {b:List UInt8} {ps:List PartP} (h:partsF b=some ps):okF b=true/\bodyB ps=midF b:=by
 unfold partsF at h
 split at h
 · rename_i hc
   simp only [Bool.and_eq_true] at hc
   injection h with h
   exact ⟨hc.1,by rw [← h];exact zpy _ hc.2⟩
 · cases h
theorem zif (b:List UInt8):(midF b).length<=b.length:=by unfold midF;rw [List.length_take,List.length_drop];omega
theorem z5o (l:List UInt8):l.length<=(texts l).length:=by unfold texts;rw [List.length_append];omega
theorem z3z {b:List UInt8} {p0 p1 p2 p3:PartP} (h:partsF b=some [p0,p1,p2,p3]):p0.2.length+p1.2.length+p2.2.length+p3.2.length<=b.length:=by
 have h1:=(z7q h).2
 have h2:=zif b
 rw [← h1] at h2
 have e:bodyB [p0,p1,p2,p3]=partB p0++(partB p1++(partB p2++partB p3)):=by simp [bodyB]
 rw [e] at h2
 simp only [List.length_append,partB,List.length_cons] at h2
 have g0:=z5o p0.2
 have g1:=z5o p1.2
 have g2:=z5o p2.2
 have g3:=z5o p3.2
 omega
def cutsK (l m:List UInt8):List KeyF:=(cutX (getDocs l).1 m).map (·.1)
def wholeK (l m:List UInt8):Bool:=(cutX (getDocs l).1 m).all (·.2)
def openK (b:List UInt8):Option (List KeyF):=match partsF b with
 | some [p0,p1,_,_]=>if getOk p0.2 && wholeK p0.2 p1.2 && filesOkK (cutsK p0.2 p1.2) && decide (shardB ((cutsK p0.2 p1.2).map unK)=b) then some (cutsK p0.2 p1.2) else none
 | _=>none
theorem z2j {b:List UInt8} {p0 p1 p2 p3:PartP} (h:partsF b=some [p0,p1,p2,p3]):openK b=if getOk p0.2 && wholeK p0.2 p1.2 && filesOkK (cutsK p0.2 p1.2) && decide (shardB ((cutsK p0.2 p1.2).map unK)=b) then some (cutsK p0.2 p1.2) else none:=by
 unfold openK
 rw [h]
theorem z4y {b:List UInt8} (h : ∀ p0 p1 p2 p3,partsF b≠some [p0,p1,p2,p3]):openK b=none:=by
 unfold openK
 split
 · rename_i e;exact absurd e (h _ _ _ _)
 · rfl
theorem zln (d:DocV):d.path.length+1<=(putDoc d).length:=by
 have h1:=z5o d.path
 have h2 : ∀ n,(fixed n).length=4:=fun _=>rfl
 unfold putDoc
 rw [List.length_append,List.length_append,h2]
 omega
theorem zee : ∀ (ds:List DocV) (m:List UInt8),sizeF (((cutX ds m).map (·.1)).map unK)<=(ds.flatMap putDoc).length+m.length
 | [],_=>by simp [cutX,sizeF]
 | d::ds,m=>by
  have ih:=zee ds (m.drop (min d.size.toNat m.length))
  have h1:=zln d
  rw [List.length_drop] at ih
  rw [cutX,List.map_cons,List.map_cons,List.flatMap_cons,List.length_append]
  simp only [sizeF,unK,List.length_take]
  omega
theorem z7r {l m:List UInt8} (h:getOk l=true):sizeF ((cutsK l m).map unK)<=l.length+m.length:=by
 have h1:=zee (getDocs l).1 m
 have h2:=zrc h
 have h3:((getDocs l).1.flatMap putDoc).length<=l.length:=by
  conv=>rhs;rw [← h2]
  unfold putBytes
  rw [List.length_append]
  omega
 unfold cutsK
 omega
theorem z6s {b:List UInt8} {ks:List KeyF} (h:openK b=some ks) : ∃ p0 p1 p2 p3,partsF b=some [p0,p1,p2,p3]/\getOk p0.2=true/\wholeK p0.2 p1.2=true/\ks=cutsK p0.2 p1.2/\filesOkK ks=true/\shardB (ks.map unK)=b:=by
 unfold openK at h
 split at h
 · rename_i p0 p1 p2 p3 e
   split at h
   · rename_i hc
     simp only [Bool.and_eq_true,decide_eq_true_eq] at hc
     injection h with h
     subst h
     exact ⟨p0,p1,p2,p3,e,hc.1.1.1,hc.1.1.2,rfl,hc.1.2,hc.2⟩
   · cases h
 · cases h
theorem zjw {b:List UInt8} {ks:List KeyF} (h:openK b=some ks):sizeF (ks.map unK)<=b.length:=by
 obtain ⟨p0,p1,p2,p3,e,h1,h2,rfl,h3,h4⟩:=z6s h
 have:=z7r (m:=p1.2) h1
 have:=z3z e
 omega
theorem zgr {fs:List FileV} (h:sizeF fs<=2000) : ∀ p∈shardP fs,p.2.length<=1000000:=fun p hp=>by
 have h1:=z49 h
 obtain ⟨A,B,e⟩:=List.append_of_mem hp
 rw [e,bodyB,List.flatMap_append,List.flatMap_cons] at h1
 have:=z5o p.2
 simp only [List.length_append,partB,List.length_cons] at h1
 omega
theorem z4z {fs:List FileV} (h:sizeF fs<=2000):partsF (shardB fs)=some (shardP fs):=zez (z49 h) (zgr h)
theorem zef : ∀ (fs:List FileV) (x:List UInt8),cutX (fs.map docOf) (contB fs++x)=fs.map fun f=>(f.key,true)
 | [],_=>rfl
 | f::fs,x=>by
  have h1:min (docOf f).size.toNat (contB (f::fs)++x).length=f.data.length:=by
   rw [show contB (f::fs)=f.data++contB fs from rfl,List.length_append,List.length_append]
   show min ((f.data.length:Int)).toNat _=_
   rw [Int.toNat_natCast]
   omega
  have h2:(contB (f::fs)++x)=f.data++(contB fs++x):=by rw [show contB (f::fs)=f.data++contB fs from rfl,List.append_assoc]
  rw [List.map_cons,cutX,h1,h2,List.take_left,List.drop_left,zef fs x,List.map_cons,show (docOf f).size=(f.data.length:Int) from rfl,decide_eq_true rfl]
  rfl
theorem z9n {fs:List FileV} (h:filesOk fs=true):getDocs (putBytes (fs.map docOf))=(fs.map docOf,some [])/\getOk (putBytes (fs.map docOf))=true:=by
 obtain ⟨h1,h2⟩:=z4i h
 have h3:=zrd h1 h2
 refine ⟨h3,?_⟩
 unfold getOk
 rw [h3,h1]
 rfl
theorem zeg {fs:List FileV} (h:filesOk fs=true):cutsK (putBytes (fs.map docOf)) (contB fs)=fs.map FileV.key/\wholeK (putBytes (fs.map docOf)) (contB fs)=true:=by
 have h1:=(z9n h).1
 have h2:=zef fs []
 rw [List.append_nil] at h2
 unfold cutsK wholeK
 rw [h1]
 dsimp only
 rw [h2,List.map_map,List.all_map]
 refine ⟨rfl,?_⟩
 rw [List.all_eq_true]
 intro _ _
 rfl
theorem zgs {fs:List FileV} (h:filesOk fs=true) (hs:sizeF fs<=2000):openK (shardB fs)=some (fs.map FileV.key):=by
 have h1:=z4z hs
 have h2:=(z9n h).2
 obtain ⟨h3,h4⟩:=zeg h
 rw [z2j h1]
 dsimp only
 rw [h2,h3,h4,← z2l,h,decide_eq_true (z7p (z4h _))]
 rfl
theorem z9o {b:List UInt8} {ks:List KeyF} {p0 p1 p2 p3:PartP} (h:openK b=some ks) (hs:sizeF (ks.map unK)<=2000) (e:partsF b=some [p0,p1,p2,p3]):(getDocs p0.2).1=ks.map docOfK/\getP p3.2=some (makeP (ks.map (·.2))):=by
 obtain ⟨_,_,_,_,_,_,_,_,h3,h4⟩:=z6s h
 have h5:=z4z (fs:=ks.map unK) (by omega)
 rw [h4,e] at h5
 have h6:filesOk (ks.map unK)=true:=by rw [z2l,z4h];exact h3
 have h7:=(z9n h6).1
 have h8:=z58 (fs:=ks.map unK) (by omega)
 have e0:p0=(1,putBytes ((ks.map unK).map docOf)):=by
  injection h5 with h5;unfold shardP at h5;injection h5
 have e3:p3=(4,putB (makeP ((ks.map unK).map (·.data)))):=by
  injection h5 with h5;unfold shardP at h5;injection h5 with _ h5;injection h5 with _ h5;injection h5 with _ h5;injection h5
 rw [e0,e3]
 refine ⟨?_,?_⟩
 · dsimp only
   rw [h7,za9,z4h]
 · dsimp only
   rw [zpr h8.2.1 (by have:=h8.2.2.2.2;unfold maxNum;omega),z8z,z4h]
theorem zr3 {x:List UInt8} (h:okF x=true):8<=x.length/\(fixR (some x)).1=x.length:=by
 unfold okF at h
 simp only [Bool.and_eq_true,decide_eq_true_eq] at h
 exact ⟨h.1.1,h.1.2⟩
theorem zof {b:List UInt8} (h:okF b=false):openK b=none:=z4y fun p0 p1 p2 p3 e=>by
 have:=(z7q e).1
 rw [h] at this
 cases this
theorem zgt {fs:List FileV} (h:sizeF fs<=2000) : ∃ y,shardB fs=fixed (shardB fs).length++y/\(shardB fs).length<4294967296:=by
 have h1:=z49 h
 have h2:=z47 (shardP fs)
 refine ⟨bodyB (shardP fs)++fixed (crcB (headB (shardP fs))),?_,by unfold shardB;omega⟩
 rw [show (shardB fs).length=(bodyB (shardP fs)).length+8 from h2]
 show headB _++_=_
 unfold headB
 rw [List.append_assoc]
theorem zr4 {fs:List FileV} (h:sizeF fs<=2000) {k:Nat} (hk:k<(shardB fs).length):okF ((shardB fs).take k)=false:=by
 cases e:okF ((shardB fs).take k)
 · rfl
 · obtain ⟨h1,h2⟩:=zr3 e
   obtain ⟨y,hy,hl⟩:=zgt h
   rw [List.length_take] at h1 h2
   have h3:(shardB fs).take k=fixed (shardB fs).length++y.take (k - 4):=by
    conv=>lhs;rw [hy]
    rw [List.take_append,show (fixed (shardB fs).length).length=4 from rfl,List.take_of_length_le (by show 4<=k;omega)]
   rw [h3,zcy hl] at h2
   omega
theorem zlo {fs:List FileV} (h:sizeF fs<=1600):(putB (makeP (fs.map (·.data)))).length<=192006:=by
 have hl:=z22 fs
 have hs:=zh4 fs
 have hm:=z58 (fs:=fs) (by omega)
 have h1:=zf0 _ (z1w hm.2.1)
 rw [zix] at h1
 have h2:=za1 (fs.map (·.data))
 have h3:=zh3 _ fun x hx=>⟨z1w hm.2.1 x hx,Nat.le_trans (hm.2.2.2.1 x hx) (by omega)⟩
 have h4:=z8l (n:=(makeP (fs.map (·.data))).length) (by have:=hm.2.2.1;omega)
 unfold putB
 rw [List.length_append]
 omega
theorem zeh {fs:List FileV} (h:sizeF fs<=1600):(bodyB (shardP fs)).length<=300000:=by
 have h1:=z56 fs
 have h2:=z48 fs (by omega)
 have h3:=za0 fs (by omega)
 have h4:=zlo h
 have h5:=z8l (n:=fs.length) (by have:=z22 fs;omega)
 have h6:(putBytes (fs.map docOf)).length<=6+16*sizeF fs:=by
  unfold putBytes
  rw [List.length_append,List.length_map]
  omega
 have e:bodyB (shardP fs)=partB (1,putBytes (fs.map docOf))++(partB (2,contB fs)++(partB (3,risesB fs)++partB (4,putB (makeP (fs.map (·.data)))))):=by simp [bodyB,shardP]
 have h7:=z78 (putBytes (fs.map docOf)) (by omega)
 have h8:=z78 (contB fs) (by omega)
 have h9:=z78 (risesB fs) (by omega)
 have h10:=z78 (putB (makeP (fs.map (·.data)))) (by omega)
 rw [e]
 simp only [List.length_append,partB,List.length_cons]
 omega
def Small (b:List UInt8):Prop:=b.length<=1000000 /\ ∀ p0 p1 p2 p3,partsF b=some [p0,p1,p2,p3]->p3.2.length<=200000/\(getOk p0.2=true->sizeF ((cutsK p0.2 p1.2).map unK)<=2000)
theorem zog {b:List UInt8} (h:b.length<=2000):Small b:=⟨by omega,fun p0 p1 p2 p3 e=>by
 have h1:=z3z e
 exact ⟨by omega,fun g=>by have:=z7r (m:=p1.2) g;omega⟩⟩
theorem zjx {b:List UInt8} (h:b.length<=1000000) (hn:partsF b=none):Small b:=⟨h,fun _ _ _ _ e=>by rw [hn] at e;cases e⟩
theorem z5p {fs:List FileV} (h:sizeF fs<=1600):(shardB fs).length<=300008:=by
 have:=zeh h
 have:=z47 (shardP fs)
 unfold shardB
 omega
theorem zjy {b:List UInt8} (h:okF b=false):partsF b=none:=by
 unfold partsF
 rw [h]
 rfl
theorem zb1 {b:List UInt8} {ks:List KeyF} (hb:Small b) (h:openK b=some ks):sizeF (ks.map unK)<=2000:=by
 obtain ⟨p0,p1,p2,p3,e,h1,h2,rfl,h3,h4⟩:=z6s h
 exact (hb.2 _ _ _ _ e).2 h1
theorem zgu {fs:List FileV} (hok:filesOk fs=true) (h:sizeF fs<=1600):Small (shardB fs):=⟨by have:=z5p h;omega,fun p0 p1 p2 p3 e=>by
 rw [z4z (by omega)] at e
 unfold shardP at e
 injection e with e
 injection e with e0 e
 injection e with e1 e
 injection e with e2 e
 injection e with e3 e
 subst e0
 subst e1
 subst e3
 dsimp only
 refine ⟨by have:=zlo h;omega,fun _=>?_⟩
 rw [(zeg hok).1,← z3j]
 omega⟩
namespace Sx
section
variable {P : Program} {l : Option Nat} {r : Hp} {Q : Exit → St} {K : St} {t : List Value} {H : List Ch}
theorem z13 {c:Code} {A:Ch} {H1:List Ch} (ht:Take A H H1) (h : ∀ r' g,sub r r'->sub g r'->A g->SW P l r' c (fun e t' H'=>Q e t' (A::H')) t H1):SW P l r c Q t H:=by
 intro w h0 ds ok al
 obtain ⟨g,k,d,rfl,hg,hk⟩:=ht.all al
 refine wpIn_mono (h (un r g) g (fun b o e=>z0e e) (fun b o e=>z0n (dj_un.1 ok.dj).1 e) hg w k ds (ok.lend d) hk) ?_
 intro e a' w' p
 cases e with
 | panic _=>exact p.elim
 | outgrown=>exact p.elim
 | _ =>
  obtain ⟨t',H',k',e1,h2,al',to'⟩:=p
  obtain ⟨d',tb⟩:=To.back ok d to'
  exact ⟨t',_,_,e1,h2,⟨g,k',d',rfl,hg,al'⟩,tb⟩
end
end Sx
def FilC (v:Value) (ks:List KeyF):Ch:=fun h => ∃ Z:List FileV,Z.map FileV.key=ks/\all [RowC 45 2 v Z.length (Z.flatMap encF),ByC (Z.map bytF)] h
def FilZ (v:Value) (Z:List FileV):Ch:=all [RowC 45 2 v Z.length (Z.flatMap encF),ByC (Z.map bytF)]
theorem zjz {r g:Hp} {v:Value} {Z:List FileV} (h:FilZ v Z g) (hs:sub g r):Files r v Z:=by
 obtain ⟨g1,g2,dd,rfl,h1,g3,g4,dd2,rfl,h2,rfl⟩:=h
 refine ⟨⟨fun _=>rfl,h1.sl (fun b o e=>hs b o (z0e e))⟩,fun x hx=>?_⟩
 exact zei h2 (fun b o e=>hs b o (z0n dd (z0e e))) (bytF x) (List.mem_map_of_mem hx)
def PrtZ (v:Value) (Z:List PartV):Ch:=all [RowC 50 2 v Z.length (Z.flatMap encPa),ByC (Z.map bytP)]
theorem zb2 {r g:Hp} {v:Value} {Z:List PartV} (h:PrtZ v Z g) (hs:sub g r):Parts r v Z:=by
 obtain ⟨g1,g2,dd,rfl,h1,g3,g4,dd2,rfl,h2,rfl⟩:=h
 refine ⟨⟨fun _=>rfl,h1.sl (fun b o e=>hs b o (z0e e))⟩,fun x hx=>?_⟩
 exact zei h2 (fun b o e=>hs b o (z0n dd (z0e e))) (bytP x) (List.mem_map_of_mem hx)
theorem Sx.res_Wc {P:Program} {r:Hp} {t:List Value} {H:List Ch} {fn:Func} {d e:Tmp} {T U:TypeId} {b n:Nat} {c:Array Value} {E:TypeId} {fz:Nat × Nat} {H':List Ch} {v:Value} {a:Addr} (hr:fn.results = #[.cell d T,.cell e U]) (hv:t[d]?=some (.pointer (some ⟨b,0,none⟩))) (hu:t[e]?=some (.pointer (some a))) (ht:Take (pt b (.cells c E fz)) H H') (hT:aggB P T=some true) (hn:sizeB P T=some n) (hl:c.size=n) (hU:aggB P U=some false) (hc:Rd1 r H a v):Res P r fn t H (.tuple #[.agg c,v]):=by
 subst hl
 intro w g e' e'' al
 have h3:=hc w g e'' e' al
 have hc : ∀ j (h:j<c.size),w.cell? (Addr.add ⟨b,0,none⟩ (0+j))=some c[j]:=fun j hj=>by
  rw [Nat.zero_add]
  exact zjb (off:=0) ht (fun j hj=>by rw [Nat.zero_add];exact Array.getElem?_eq_getElem hj) j hj w g e'' e' al
 have h1:=z1m (P:=P) (a:=⟨b,0,none⟩) (w:=w) c.size 0 #[] c rfl hc
 have h2:t.toArray.getD d undef = .pointer (some ⟨b,0,none⟩):=by simp [hv,Array.getD_eq_getD_getElem?]
 have h4:t.toArray.getD e undef = .pointer (some a):=by simp [hu,Array.getD_eq_getD_getElem?]
 simp [results,hr,hv,hu,asAddr,loadVar,loadCells,Sem.run_bind,z1a hT,z1a hU,z14 hn,Result.andThen,h1,z4n h3,Array.getD_eq_getD_getElem?]
theorem z1f {r g:Hp} {v:Value} {ks:List KeyF} (h:FilC v ks g) (hs:sub g r) : ∃ Z:List FileV,Z.map FileV.key=ks/\Files r v Z:=by
 obtain ⟨Z,hZ,h1⟩:=h
 exact ⟨Z,hZ,zjz h1 hs⟩
def ShC (p:Nat) (ks:List KeyF):Ch:=fun h => ∃ (q:Nat) (vd vf vp:Value),all [pt p (.cells [.pointer (some ⟨q,0,none⟩)].toArray 54 (0,0)),pt q (.cells [vd,vf,vp].toArray 114 (0,0)),DocR vd (ks.map docOfK),FilC vf ks,PostC 145 149 vp (makeP (ks.map (·.2)))] h
def ShR (r:Hp) (v:Value) (ks:List KeyF):Prop :=
 (v = .pointer none/\ks=[])\/(∃ p,v = .pointer (some ⟨p,0,none⟩)/\r p=some (.cells [.pointer none].toArray 54 (0,0))/\ks=[]) \/
 ∃ (p q:Nat) (vd vf vp:Value) (Z:List FileV) (Y:List PostV),v = .pointer (some ⟨p,0,none⟩)/\r p=some (.cells [.pointer (some ⟨q,0,none⟩)].toArray 54 (0,0))/\r q=some (.cells [vd,vf,vp].toArray 114 (0,0))/\Docs r vd (ks.map docOfK)/\Files r vf Z/\Z.map FileV.key=ks/\Posts r vp Y/\Y.map unP=makeP (ks.map (·.2))
theorem zgv {r g:Hp} {v:Value} {ps:List PostP} (h:PostC 145 149 v ps g) (hs:sub g r) : ∃ Y:List PostV,Y.map unP=ps/\Posts r v Y:=by
 obtain ⟨Z,hZ,hB⟩:=h
 have h0 : ∃ a c,v = .slice a Z.length c:=by
  obtain ⟨g1,g2,dd,rfl,h1,h2⟩:=hB
  exact (h1.sl (r:=un g1 g2) (fun b o e=>z0e e)).form
 obtain ⟨a,c,rfl⟩:=h0
 obtain ⟨h1,h2⟩:=z25 (Z:=Z) hB hs rfl
 exact ⟨_,by rw [h1,hZ],h2⟩
theorem zcn {r g:Hp} {p:Nat} {ks:List KeyF} (h:ShC p ks g) (hs:sub g r):ShR r (.pointer (some ⟨p,0,none⟩)) ks:=by
 obtain ⟨q,vd,vf,vp,g1,k1,d1,rfl,h1,g2,k2,d2,rfl,h2,g3,k3,d3,rfl,h3,g4,k4,d4,rfl,h4,g5,k5,d5,rfl,h5,rfl⟩:=h
 have s1:sub g1 r:=fun b o e=>hs b o (z0e e)
 have t1:sub (un g2 (un g3 (un g4 (un g5 emp)))) r:=fun b o e=>hs b o (z0n d1 e)
 have s2:sub g2 r:=fun b o e=>t1 b o (z0e e)
 have t2:sub (un g3 (un g4 (un g5 emp))) r:=fun b o e=>t1 b o (z0n d2 e)
 have s3:sub g3 r:=fun b o e=>t2 b o (z0e e)
 have t3:sub (un g4 (un g5 emp)) r:=fun b o e=>t2 b o (z0n d3 e)
 have s4:sub g4 r:=fun b o e=>t3 b o (z0e e)
 have t4:sub (un g5 emp) r:=fun b o e=>t3 b o (z0n d4 e)
 have s5:sub g5 r:=fun b o e=>t4 b o (z0e e)
 obtain ⟨Z,hZ,hF⟩:=z1f h4 s4
 obtain ⟨Y,hY,hP⟩:=zgv h5 s5
 refine .inr (.inr ⟨p,q,vd,vf,vp,Z,Y,rfl,s1 _ _ (by rw [h1];exact z0h),s2 _ _ (by rw [h2];exact z0h),⟨fun _=>rfl,h3.sl s3⟩,hF,hZ,hP,hY⟩)
theorem ShR.mono {r r':Hp} {v:Value} {ks:List KeyF} (h:ShR r v ks) (hr:sub r r'):ShR r' v ks:=by
 rcases h with h | ⟨p,h1,h2,h3⟩ | ⟨p,q,vd,vf,vp,Z,Y,h1,h2,h3,h4,h5,h6,h7,h8⟩
 · exact .inl h
 · exact .inr (.inl ⟨p,h1,hr _ _ h2,h3⟩)
 · exact .inr (.inr ⟨p,q,vd,vf,vp,Z,Y,h1,hr _ _ h2,hr _ _ h3,h4.mono hr,⟨h5.1.mono hr,fun f hf=>(h5.2 f hf).mono hr⟩,h6,⟨h7.1.mono hr,fun x hx=>(h7.2 x hx).mono hr⟩,h8⟩)
end Go.Proofs.YtohpeoakdgckfaaGreat
