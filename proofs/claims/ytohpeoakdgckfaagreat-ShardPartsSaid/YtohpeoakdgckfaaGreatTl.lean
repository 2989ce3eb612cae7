/- mudlarklaw23.tells: its contract. -/
import Derived.Test.YtohpeoakdgckfaaGreatHv
import Derived.Test.YtohpeoakdgckfaaGreatSm
import Derived.Test.YtohpeoakdgckfaaGreatSf
import Derived.Test.YtohpeoakdgckfaaGreatEm
set_option maxHeartbeats 8000000
set_option maxRecDepth 10000
namespace Go.Proofs.YtohpeoakdgckfaaGreat
open Go.RowKit Sx
theorem zcl (r:Hp) (v:Value) (fs:List FileV) (s:List UInt8) (hv:Files r v fs) (hs:sizeF fs<=2000):Tri Tryz.prog r 58 [v,.string (bs s)] [] fun w H => ∃ A:Ch,H=[A] /\ ∀ g r',A g->sub g r'->Els r' 2 encPl w (placesG (makeP (fs.map (·.data))) s):=by
 refine Tri.free2 fun R HR=>?_
 have hfl:=z22 fs
 obtain ⟨htot,hpo,hpl,hpm,hpb⟩:=z58 hs
 have hco:=z6q r v fs hv (by omega)
 have hmk:=fun r' g a c (hr:sub r r') (hg:sub g r') (hA:RowC 26 1 (.slice a fs.length c) fs.length ((fs.map bytF).flatMap encBy) g)=>zdr r' (.slice a fs.length c) (fs.map bytF) (zcm hv hA hr hg) (by rw [List.length_map];omega) (by rw [dataF];rw [List.length_map] at htot ⊢;omega)
 simp only [dataF] at hmk
 clear htot hpo hpb
 generalize makeP (fs.map (·.data))=ps at hmk HR hpl hpm
 refine ae Tryz.func58 Tryz.ntmps58 ?_
 repeat' (first|(refine acl Tryz.func44 ?_;refine acr (hco) ?_;rintro v' H' ⟨a2,c2,rfl,rfl⟩;refine apl ?_)|((with_reducible refine z07 43 ?_);(with_reducible apply z05 (A:=RowC 26 1 (.slice a2 fs.length c2) fs.length ((fs.map bytF).flatMap encBy)));(exact atk);intro r1 g1 hr1 hg1 hA1;(refine acl Tryz.func43 ?_;refine acr (hmk r1 g1 a2 c2 hr1 hg1 hA1) ?_;rintro v' H' ⟨a4,c4,rfl,rfl⟩;refine apl ?_))|refine aw0 ?_|(refine ap2 ?_ ?_<;>try intro h)|refine aw1 ?_|(refine abx ?_;intro bb)|(refine abz ?_;intro bz)|(refine ahv ?_;intro v' hv')|(refine aac ?_;intro ac cc)|refine aw2 ?_|(refine ap4 ?_ ?_<;>try intro h)|apply True.intro)
 refine z1x (A:=PostC 145 149 (.slice a4 ps.length c4) ps) (ι:=List PZ) (B:=fun Z=>[PZC 145 149 (.slice a4 ps.length c4) Z]) (φ:=fun Z=>Z.map (·.1)=ps) atk (fun h ⟨Z,h1,h2⟩=>⟨Z,h1,z11.2 h2⟩) ?_
 rintro Z hZ
 dsimp only [List.cons_append,List.nil_append]
 have hzl:Z.length=ps.length:=by rw [← hZ,List.length_map]
 refine z13 (A:=PZC 145 149 (.slice a4 ps.length c4) Z) atk fun r2 g2 hr2 hg2 hA2=>?_
 obtain ⟨hY,hP⟩:=z25 hA2 hg2 hzl
 have hEx : ∀ g r',PZC 145 149 (.slice a4 ps.length c4) Z g->sub g r'->Posts r' (.slice a4 ps.length c4) (Z.map pvZ):=fun g r' h hs=>(z25 h hs hzl).2
 rw [hZ] at hY
 have hYl:(Z.map pvZ).length=ps.length:=by rw [List.length_map,hzl]
 generalize Z.map pvZ=Y at hY hP hEx hYl
 obtain ⟨hpe,hpb⟩:=hP
 refine z04 (fun gm t H' => ∃ k:Nat,gm=Y.length+1 - k/\(k<=Y.length)/\((Y.take k).findIdx? (fun d=>decide (d.gram=s))=none)/\(∃ G,Takes [] H' G)/\Sls t 28 [(1,.string (bs s)),(5,.slice a4 ps.length c4),(6,.int .i64 k)]) _ ⟨0,rfl,Nat.zero_le _,rfl,⟨_,atks⟩,asls⟩ ?_
 rintro gm t H' ⟨k,rfl,hk,ht,⟨G,hp⟩,hs'⟩
 revert t;refine z06 ?_;iterate 25 intro uu'
 refine z01 hp ?_;clear hp
 have hpg:placesG ps s=match Y.findIdx? (fun d=>decide (d.gram=s)) with|some k=>(Y.getD k default).pl|none=>[]:=by
  rw [← hY]
  unfold placesG
  rw [List.findIdx?_map]
  show (match Y.findIdx? (fun d=>decide (d.gram=s)) with|some k=>((Y.map unP).getD k default).2|none=>[])=_
  cases e:Y.findIdx? (fun d=>decide (d.gram=s)) with
  | none=>rfl
  | some k =>
   have hk:=(List.findIdx?_eq_some_iff_getElem.1 e).1
   dsimp only
   rw [zin hk]
   rfl
 by_cases hlt:k<Y.length
 · have hap:=z6i (q:=fun d:PostV=>decide (d.gram=s)) hlt ht
   have hge:Y[k]=Y.getD k default:=by rw [List.getD_eq_getElem?_getD,List.getElem?_eq_getElem hlt];rfl
   by_cases he:(Y.getD k default).gram=s
   · have hf:=z8s (q:=fun d:PostV=>decide (d.gram=s)) hlt ht (by rw [hge];exact decide_eq_true he)
     rw [hf] at hpg
     dsimp only at hpg
     rw [hpg] at HR
     repeat' (first|exact xf|refine aw0 ?_|(refine ap2 ?_ ?_<;>try intro h)|refine aw1 ?_|(refine abx ?_;intro bb)|(refine abz ?_;intro bz)|(refine ahv ?_;intro v' hv')|(refine aac ?_;intro ac cc)|refine aw2 ?_|(refine ap4 ?_ ?_<;>try intro h)|apply True.intro)
     ((with_reducible apply z00);exact res_1 rfl rfl)
     exact HR.out _ _ _ [PZC 145 149 (.slice a4 ps.length c4) Z] atks ⟨_,rfl,fun g r' h hs=>(hEx g r' h hs).2 _ (z0g hlt)⟩
   · repeat' (first|exact xf|refine aw0 ?_|(refine ap2 ?_ ?_<;>try intro h)|refine aw1 ?_|(refine abx ?_;intro bb)|(refine abz ?_;intro bz)|(refine ahv ?_;intro v' hv')|(refine aac ?_;intro ac cc)|refine aw2 ?_|(refine ap4 ?_ ?_<;>try intro h)|apply True.intro)
     exact ⟨_,by omega,k+1,rfl,by omega,by rw [hap,hge,decide_eq_false he];rfl,⟨_,atks⟩,asls⟩
 · obtain rfl:k=Y.length:=by omega
   rw [List.take_length] at ht
   rw [ht] at hpg
   dsimp only at hpg
   rw [hpg] at HR
   repeat' (first|exact xf|refine aw0 ?_|(refine ap2 ?_ ?_<;>try intro h)|refine aw1 ?_|(refine abx ?_;intro bb)|(refine abz ?_;intro bz)|(refine ahv ?_;intro v' hv')|(refine aac ?_;intro ac cc)|refine aw2 ?_|(refine ap4 ?_ ?_<;>try intro h)|apply True.intro)
   ((with_reducible apply z00);exact res_1 rfl rfl)
   exact HR.out _ _ _ [PZC 145 149 (.slice a4 ps.length c4) Z] atks ⟨_,rfl,fun g r' h hs=>⟨fun _=>rfl,Sl.nil _ _⟩⟩
def rB (x:RowV):BytV:=⟨x.val,x.l⟩
theorem zjp (k:Nat) (l:List UInt8):half k 0 l=u8s l:=by simp [half,mrow]
theorem zqx {X:List RowV} (h:Hp) (e:ByC (X.map rB) h):all (famL X.length (fb1 X) (fb0 X) 0) h:=by
 rw [zik X (fb1 X) (fb0 X) (fun x=>U8R (.slice x.a x.l.length x.c) x.l) (fun j hj=>by unfold fb0;rw [zjp])]
 have e2:ByC (X.map rB) h=all (X.map fun x=>U8R (.slice x.a x.l.length x.c) x.l) h:=by
  unfold ByC
  rw [List.map_map]
  rfl
 rw [← e2]
 exact e
theorem zi9 {z:FileV} {Z:List FileV} (h:Hp) (e:ByC ((z::Z).map bytF) h) : ∃ x y,dj x y/\h=un x y/\U8R z.val z.data x/\ByC (Z.map bytF) y:=e
theorem z6p {X:List RowV} {x:RowV} (h:Hp) (e:all [ByC (X.map rB),U8R (.slice x.a x.l.length x.c) x.l] h):ByC ((X++[x]).map rB) h:=by
 rw [List.map_append]
 exact z38 h e
theorem zia {Z:List FileV} {m:Nat} (h:m<Z.length):Z.drop m=Z.getD m default::Z.drop (m+1):=by
 rw [List.drop_eq_getElem_cons h,List.getD_eq_getElem?_getD,List.getElem?_eq_getElem h]
 rfl
theorem zib {r:Hp} {v:Value} {xs:List Nat} {g:Hp} (h:NatR v xs g) (hs:sub g r):Els r 1 encI v (xs.map Int.ofNat):=⟨fun _=>rfl,by
 have h1:=h.sl hs
 rw [List.length_map,List.flatMap_map]
 exact h1⟩
theorem zgl (r:Hp) (v:Value) (X:List RowV) (hv:Els r 1 encS v X) (hn:X.length<=1000000) (hl : ∀ x∈X,x.l.length<=100000000):Tri Tryz.prog r 14 [v] [ByC (X.map rB)] fun w H=>w = .bool true/\H=[]:=by
 have h:=z3r r v X hv hn hl
 refine z1c.2 fun w g ok a=>z1c.1 h w g ok (zqx g (z11.1 a))
theorem z9i (r:Hp) (v vf:Value) (fs:List FileV) (s:List UInt8) (h:ShR r v (fs.map FileV.key)) (hf:Files r vf fs) (hs:sizeF fs<=1600) (hok:filesOk fs=true):Tri Tryz.prog r 18 [v,vf,.string (bs s)] [] fun w H=>w = .bool true/\H=[]:=by
 refine Tri.free2 fun R HR=>?_
 obtain ⟨ks,hks⟩ : ∃ ks,fs.map FileV.key=ks:=⟨_,rfl⟩
 have hkl:ks.length=fs.length:=by rw [← hks,List.length_map]
 have hfl:=z22 fs
 have hmem:=fun f (hf:f∈fs)=>z4x hf
 have hkd : ∀ k∈ks,k.2.length<=1000000:=fun k hk=>by
  rw [← hks] at hk
  obtain ⟨f,hf,rfl⟩:=List.mem_map.1 hk
  have:=hmem f hf
  show f.data.length<=1000000
  omega
 obtain ⟨hfe,hfb⟩:=hf
 have hof:=zf1 r vf fs ⟨hfe,hfb⟩ (fun f hf=>by have:=hmem f hf;omega)
 rw [za8,hok] at hof
 simp only [if_true] at hof
 have hmo:=z58 (fs:=fs) (by omega)
 rw [hks] at h
 have hS:=h
 have hsf:=zka r v ks h (by omega) hkd
 have hsd:=zlz r v ks h (by omega)
 rw [show ks.map docOfK=fs.map docOf by rw [← hks,← za9]] at hsd
 have hps:makeP (ks.map (·.2))=makeP (fs.map (·.data)):=by rw [← hks,z8z]
 have hsp:=z9w r v ks s h (fun p hp=>by rw [hps] at hp;have:=hmo.2.2.2.1 p hp;omega)
 have hrp:=zcl r vf fs s ⟨hfe,hfb⟩ (by omega)
 rw [hps] at hsp
 have hpl:(placesG (makeP (fs.map (·.data))) s).length<=2000:=by
  unfold placesG
  split
  · rename_i k e
    have hk:=(List.findIdx?_eq_some_iff_getElem.1 e).1
    exact hmo.2.2.2.1 _ (z0g hk)
  · exact Nat.zero_le _
 generalize placesG (makeP (fs.map (·.data))) s=G at hsp hrp hpl
 have hsm:=fun r' w (hr:sub r r') (h : ∃ Z:List FileV,Z.map FileV.key=ks/\Files r' w Z)=>(show Tri Tryz.prog r' 23 [w,vf] [] fun u H=>u = .bool true/\H=[] from by
  obtain ⟨Z,h3,h4⟩:=h
  have h5:=zch r' w vf Z fs h4 ⟨hfe.mono hr,fun f hf=>(hfb f hf).mono hr⟩
  rw [decide_eq_true (by rw [h3,hks])] at h5
  exact h5)
 have hsdd:=fun r' w u (h1:Docs r' w (fs.map docOf)) (h2:Docs r' u (fs.map docOf))=>zen r' w u _ _ h1 h2
 simp only [decide_true] at hsdd
 have hspp:=fun r' w u (h1:Els r' 2 encPl w G) (h2:Els r' 2 encPl u G)=>zar r' w u _ _ h1 h2
 simp only [decide_true] at hspp
 generalize fs.map docOf=DS at hof hsd hsdd
 refine ae Tryz.func18 Tryz.ntmps18 ?_
 repeat' (first|(refine acl Tryz.func40 ?_;refine acr (hof) ?_;rintro v' H' ⟨a1,c1,rfl,rfl⟩;refine apl ?_)|refine aw0 ?_|(refine ap2 ?_ ?_<;>try intro h)|refine aw1 ?_|(refine abx ?_;intro bb)|(refine abz ?_;intro bz)|(refine ahv ?_;intro v' hv')|(refine aac ?_;intro ac cc)|refine aw2 ?_|(refine ap4 ?_ ?_<;>try intro h)|apply True.intro)
 (refine acl Tryz.func24 ?_;refine acr (hsf) ?_;rintro v' H' ⟨a2,c2,rfl,rfl⟩;refine apl ?_)
 repeat' (first|refine aw0m ?_|(refine ap2 ?_ ?_<;>try intro h)|refine aw1m ?_|(refine abx ?_;intro bb)|(refine abz ?_;intro bz)|(refine ahv ?_;intro v' hv')|(refine aac ?_;intro ac cc)|refine aw2 ?_|(refine ap4 ?_ ?_<;>try intro h)|apply True.intro)
 (refine acl Tryz.func24 ?_;refine acr (hsf) ?_;rintro v' H' ⟨a3,c3,rfl,rfl⟩;refine apl ?_)
 repeat' (first|refine aw0m ?_|(refine ap2 ?_ ?_<;>try intro h)|refine aw1m ?_|(refine abx ?_;intro bb)|(refine abz ?_;intro bz)|(refine ahv ?_;intro v' hv')|(refine aac ?_;intro ac cc)|refine aw2 ?_|(refine ap4 ?_ ?_<;>try intro h)|apply True.intro)
 (refine acl Tryz.func28 ?_;refine acr (hsp) ?_;rintro v' H' ⟨a4,c4,rfl,rfl⟩;refine apl ?_)
 repeat' (first|refine aw0m ?_|(refine ap2 ?_ ?_<;>try intro h)|refine aw1m ?_|(refine abx ?_;intro bb)|(refine abz ?_;intro bz)|(refine ahv ?_;intro v' hv')|(refine aac ?_;intro ac cc)|refine aw2 ?_|(refine ap4 ?_ ?_<;>try intro h)|apply True.intro)
 (refine acl Tryz.func28 ?_;refine acr (hsp) ?_;rintro v' H' ⟨a5,c5,rfl,rfl⟩;refine apl ?_)
 repeat' (first|((with_reducible refine z07 23 ?_);(with_reducible apply z05 (A:=FilC (.slice a2 ks.length c2) ks));(exact atk);intro r2 g2 hr2 hg2 hA2;(refine acl Tryz.func23 ?_;refine acr (hsm r2 _ hr2 (z1f hA2 hg2)) ?_;rintro v' H' ⟨rfl,rfl⟩;refine apl ?_))|(refine acl Tryz.func56 ?_;refine acr (hsd) ?_;rintro v' H' ⟨a6,c6,rfl,rfl⟩;refine apl ?_)|((with_reducible refine z07 55 ?_);(with_reducible apply z05 (A:=DocR (.slice a6 ks.length c6) DS));(exact atk);intro r2 g2 hr2 hg2 hA2;(with_reducible apply z05 (A:=DocR (.slice a1 fs.length c1) DS));(exact atk);intro r3 g3 hr3 hg3 hA3;(refine acl Tryz.func55 ?_;refine acr (hsdd r3 _ _ ⟨fun _=>rfl,(hA2.sl hg2).mono hr3⟩ ⟨fun _=>rfl,hA3.sl hg3⟩) ?_;rintro v' H' ⟨rfl,rfl⟩;refine apl ?_))|(refine acl Tryz.func58 ?_;refine acr (hrp) ?_;rintro v' H' ⟨A,rfl,hAp⟩;refine apl ?_)|((with_reducible refine z07 57 ?_);(with_reducible apply z05 (A:=RowC 149 2 (.slice a4 G.length c4) G.length (G.flatMap encPl)));(exact atk);intro r2 g2 hr2 hg2 hA2;(with_reducible apply z05 (A:=A));(exact atk);intro r3 g3 hr3 hg3 hA3;(refine acl Tryz.func57 ?_;refine acr (hspp r3 _ _ ⟨fun _=>rfl,(hA2.sl hg2).mono hr3⟩ (hAp _ _ hA3 hg3)) ?_;rintro v' H' ⟨rfl,rfl⟩;refine apl ?_))|((with_reducible apply z0k [(bz,.cells [.slice a4 G.length c4,.slice a5 G.length c5].toArray 62 (0,0))]);(exact atks);intro r' hl';refine acl Tryz.func59 ?_;refine acr (z9e _ _ a4 a5 c4 c5 G G (Sl.lit (n:=2) (Lent.h1 hl') rfl (by simp [maxLen])) (by omega) (by omega)) ?_;rintro v' H' ⟨rfl,rfl⟩;all_goals refine apm ?_)|((with_reducible apply z3t);exact ty_el;exact z03;intro bz0;(refine apk ?_))|exact xf|refine aw0 ?_|(refine ap2 ?_ ?_<;>try intro h)|refine aw1 ?_|(refine abx ?_;intro bb)|(refine abz ?_;intro bz)|(refine ahv ?_;intro v' hv')|(refine aac ?_;intro ac cc)|refine aw2 ?_|(refine ap4 ?_ ?_<;>try intro h)|apply True.intro)
 refine z1x (A:=FilC (.slice a2 ks.length c2) ks) (ι:=List FileV) (B:=fun Z=>[RowC 45 2 (.slice a2 ks.length c2) Z.length (Z.flatMap encF),ByC (Z.map bytF)]) (φ:=fun Z=>Z.map FileV.key=ks) atk (fun h ⟨Z,h1,h2⟩=>⟨Z,h1,h2⟩) ?_
 rintro Za hZa
 dsimp only [List.cons_append,List.nil_append]
 refine z1x (A:=FilC (.slice a3 ks.length c3) ks) (ι:=List FileV) (B:=fun Z=>[RowC 45 2 (.slice a3 ks.length c3) Z.length (Z.flatMap encF),ByC (Z.map bytF)]) (φ:=fun Z=>Z.map FileV.key=ks) atk (fun h ⟨Z,h1,h2⟩=>⟨Z,h1,h2⟩) ?_
 rintro Zb hZb
 dsimp only [List.cons_append,List.nil_append]
 have hla:Za.length=ks.length:=by rw [← hZa,List.length_map]
 have hlb:Zb.length=ks.length:=by rw [← hZb,List.length_map]
 refine z0f (A:=ByC (([]:List RowV).map rB)) rfl ?_
 refine z04 (fun gm t H' => ∃ (m:Nat) (i:Int) (a9:Option Addr) (c9:Nat) (X:List RowV),gm=((ks.length:Int)+2 - i).toNat/\(X.length=4*m)/\((i = -1/\m=0)\/(i=m/\m<=ks.length)\/(i=ks.length+1/\m=ks.length))/\(∀ x∈X,x.l.length<=1000000)/\(∃ G,Takes [RowC 26 1 (.slice a9 (4*m) c9) (4*m) (X.flatMap encS),ByC (X.map rB),RowC 45 2 (.slice a2 ks.length c2) Za.length (Za.flatMap encF),RowC 45 2 (.slice a3 ks.length c3) Zb.length (Zb.flatMap encF),ByC ((Za.drop m).map bytF),ByC ((Zb.drop m).map bytF)] H' G)/\Sls t 129 [(0,v),(1,vf),(9,.slice a2 ks.length c2),(10,.slice a3 ks.length c3),(13,.slice a9 (4*m) c9),(14,.int .i64 i)]) _ ⟨0,-1,some ⟨bz0,0,none⟩,0,[],rfl,rfl,.inl ⟨rfl,rfl⟩,(fun x hx=>by cases hx),⟨_,by rw [List.drop_zero,List.drop_zero];exact atks⟩,asls⟩ ?_
 rintro gm t H' ⟨m,i,a9,c9,X,rfl,hXn,hm,hXl,⟨G,hp⟩,hs'⟩
 revert t;refine z06 ?_;iterate 123 intro uu'
 refine z01 hp ?_;clear hp
 by_cases hend:i=ks.length+1
 · obtain rfl:m=ks.length:=by omega
   have hapB:=fun r' v (h:Sl r' 1 v (4*ks.length) (X.flatMap encS))=>zgl r' v X ⟨fun _=>rfl,by rw [hXn];exact h⟩ (by omega) (fun x hx=>by have:=hXl x hx;omega)
   repeat' (first|((with_reducible refine z07 14 ?_);(with_reducible apply z05 (A:=RowC 26 1 (.slice a9 (4*ks.length) c9) (4*ks.length) (X.flatMap encS)));(exact atk);intro r5 g5 hr5 hg5 hA5;(refine acl Tryz.func14 ?_;refine acr (hapB r5 _ (hA5.sl hg5)) ?_;rintro v' H' ⟨rfl,rfl⟩;refine apl ?_))|(refine acl Tryz.func24 ?_;refine acr (hsf) ?_;rintro v' H' ⟨a12,c12,rfl,rfl⟩;refine apl ?_)|((with_reducible refine z07 23 ?_);(with_reducible apply z05 (A:=FilC (.slice a12 ks.length c12) ks));(exact atk);intro r2 g2 hr2 hg2 hA2;(refine acl Tryz.func23 ?_;refine acr (hsm r2 _ hr2 (z1f hA2 hg2)) ?_;rintro v' H' ⟨rfl,rfl⟩;refine apl ?_))|exact xf|refine aw0 ?_|(refine ap2 ?_ ?_<;>try intro h)|refine aw1 ?_|(refine abx ?_;intro bb)|(refine abz ?_;intro bz)|(refine ahv ?_;intro v' hv')|(refine aac ?_;intro ac cc)|refine aw2 ?_|(refine ap4 ?_ ?_<;>try intro h)|apply True.intro)
   ((with_reducible apply z00);exact res_1 rfl rfl)
   exact HR.out _ _ _ [] Takes.all ⟨rfl,rfl⟩
 · by_cases hin:0<=i/\i<ks.length
   · obtain rfl:i=m:=by omega
     have hmf:m<fs.length:=by omega
     have hmm:=z0g hmf
     have hfm:=hfb _ hmm
     have hfs:=hmem _ hmm
     obtain ⟨f,hfd⟩ : ∃ f,fs.getD m default=f:=⟨_,rfl⟩
     rw [hfd] at hfm hfs
     have hkm:ks.getD m default=f.key:=by
      rw [← hks,List.getD_eq_getElem?_getD,List.getElem?_map,List.getElem?_eq_getElem hmf,← hfd,List.getD_eq_getElem?_getD,List.getElem?_eq_getElem hmf];rfl
     have hD:dataAt ks m=f.data:=by
      unfold dataAt
      rw [if_pos hin,Int.toNat_natCast,hkm]
     have hby:=fun r' (hr:sub r r')=>zb9 r' v ks m (hS.mono hr) hkd
     have hli:=z7v r v ks m hS hkd
     rw [hD] at hby
     rw [if_pos hin,hD] at hli
     have hrl:=zaz r f.val f.data hfm (by omega)
     have hzd:=(zl6 (hZa.trans hks.symm) (k:=m) (by omega)).2
     have hyd:=(zl6 (hZb.trans hks.symm) (k:=m) (by omega)).2
     rw [hfd] at hzd hyd
     have hda:=zia (Z:=Za) (m:=m) (by omega)
     have hdb:=zia (Z:=Zb) (m:=m) (by omega)
     obtain ⟨⟨zp,zv,zd⟩,hz⟩ : ∃ z,Za.getD m default=z:=⟨_,rfl⟩
     obtain ⟨⟨yp,yv,yd⟩,hy⟩ : ∃ z,Zb.getD m default=z:=⟨_,rfl⟩
     rw [hz] at hda hzd
     rw [hy] at hdb hyd
     dsimp only at hzd hyd
     obtain ⟨fp,fv,fd⟩:=f
     dsimp only at hfm hfs hby hli hrl hzd hyd
     subst hzd
     subst hyd
     have hfdl:(fs.getD m default).val=fv:=by rw [hfd]
     have hzl:(Za.getD m default).val=zv:=by rw [hz]
     have hyl:(Zb.getD m default).val=yv:=by rw [hy]
     have hma:m<Za.length:=by omega
     have hmb:m<Zb.length:=by omega
     clear hz hy hfd
     rw [hda,hdb]
     refine z97 atk (zi9 (z:=⟨zp,zv,yd⟩) (Z:=Za.drop (m+1))) ?_
     refine z97 atk (zi9 (z:=⟨yp,yv,yd⟩) (Z:=Zb.drop (m+1))) ?_
     dsimp only
     refine z1x (A:=U8R zv yd) (ι:=Option Addr × Nat) (B:=fun _=>[U8R zv yd]) (φ:=fun i=>zv = .slice i.1 yd.length i.2) atk z5m ?_
     rintro ⟨az,cz⟩ hzv
     dsimp only [List.cons_append,List.nil_append] at hzv ⊢
     subst hzv
     refine z1x (A:=U8R yv yd) (ι:=Option Addr × Nat) (B:=fun _=>[U8R yv yd]) (φ:=fun i=>yv = .slice i.1 yd.length i.2) atk z5m ?_
     rintro ⟨ay,cy⟩ hyv
     dsimp only [List.cons_append,List.nil_append] at hyv ⊢
     subst hyv
     have hsb:=fun r' v w (h1:U8S r' v yd) (h2:U8S r' w yd)=>z21 r' v w yd yd h1 h2
     simp only [decide_true] at hsb
     have hsi:=fun r' v w (h1:Els r' 1 encI v ((linesOf yd).map Int.ofNat)) (h2:Els r' 1 encI w ((linesOf yd).map Int.ofNat))=>zdh r' v w _ _ h1 h2
     simp only [decide_true] at hsi
     generalize linesOf yd=L at hli hrl hsi
     repeat' (first|(rw [hfdl])|(rw [hzl])|(rw [hyl])|(refine acl Tryz.func60 ?_;refine acr (hby r (fun _ _ h=>h)) ?_;rintro v' H' ⟨a7,c7,rfl,rfl⟩;refine apl ?_)|(refine acl Tryz.func27 ?_;refine acr (hli) ?_;rintro v' H' ⟨a8,c8,rfl,rfl⟩;refine apl ?_)|((with_reducible refine z07 12 ?_);(with_reducible apply z05 (A:=U8R (.slice a7 yd.length c7) yd));(exact atk);intro r2 g2 hr2 hg2 hA2;(refine acl Tryz.func12 ?_;refine acr (hsb r2 _ _ (hA2.sl hg2) (hfm.mono hr2)) ?_;rintro v' H' ⟨rfl,rfl⟩;refine apl ?_))|(refine acl Tryz.func46 ?_;refine acr (hrl) ?_;rintro v' H' ⟨a11,c11,rfl,rfl⟩;refine apl ?_)|((with_reducible refine z07 61 ?_);(with_reducible apply z05 (A:=NatR (.slice a8 L.length c8) L));(exact atk);intro r2 g2 hr2 hg2 hA2;(with_reducible apply z05 (A:=NatR (.slice a11 L.length c11) L));(exact atk);intro r3 g3 hr3 hg3 hA3;(refine acl Tryz.func61 ?_;refine acr (hsi r3 _ _ ((zib hA2 hg2).mono hr3) (zib hA3 hg3)) ?_;rintro v' H' ⟨rfl,rfl⟩;refine apl ?_))|exact xf|refine aw0 ?_|(refine ap2 ?_ ?_<;>try intro h)|refine aw1 ?_|(refine abx ?_;intro bb)|(refine abz ?_;intro bz)|(refine ahv ?_;intro v' hv')|(refine aac ?_;intro ac cc)|refine aw2 ?_|(refine ap4 ?_ ?_<;>try intro h)|apply True.intro)
     refine zht ?_
     refine zht ?_
     refine z0b (As:=[ByC (X.map rB),U8R (.slice a7 yd.length c7) yd]) (D:=ByC ((X++[(⟨a7,c7,yd⟩:RowV)]).map rB)) atks (z6p (x:=⟨a7,c7,yd⟩)) ?_
     refine z0b (As:=[ByC ((X++[(⟨a7,c7,yd⟩:RowV)]).map rB),U8R (.slice az yd.length cz) yd]) (D:=ByC ((X++[(⟨a7,c7,yd⟩:RowV)]++[(⟨az,cz,yd⟩:RowV)]).map rB)) atks (z6p (x:=⟨az,cz,yd⟩)) ?_
     refine z0b (As:=[ByC ((X++[(⟨a7,c7,yd⟩:RowV)]++[(⟨az,cz,yd⟩:RowV)]).map rB),U8R (.slice ay yd.length cy) yd]) (D:=ByC ((X++[(⟨a7,c7,yd⟩:RowV)]++[(⟨az,cz,yd⟩:RowV)]++[(⟨ay,cy,yd⟩:RowV)]).map rB)) atks (z6p (x:=⟨ay,cy,yd⟩)) ?_
     repeat' (first|(rw [hfdl])|(rw [hzl])|(rw [hyl])|((with_reducible apply z13 (c:= .region 16 _ _) (A:=RowC 45 2 (.slice a2 ks.length c2) Za.length (Za.flatMap encF)));(with_reducible (exact atk));intro r5 g5 hr5 hg5 hA5;have hEa:Els r5 2 encF (.slice a2 ks.length c2) Za:=⟨fun _=>rfl,hA5.sl hg5⟩)|((with_reducible apply z13 (c:= .region 16 _ _) (A:=RowC 45 2 (.slice a3 ks.length c3) Zb.length (Zb.flatMap encF)));(with_reducible (exact atk));intro r6 g6 hr6 hg6 hA6;have hEb:Els r6 2 encF (.slice a3 ks.length c3) Zb:=⟨fun _=>rfl,hA6.sl hg6⟩;have hEc:=hEa.mono hr6)|((with_reducible apply z02 (id:=16) 17 [(0,true),(1,true),(2,true),(3,true),(4,true),(5,true),(6,true),(7,true),(8,true),(9,true),(10,true),(11,true),(12,true),(13,true),(14,false),(15,false),(16,false)] [(17,false)] []);kernel_rfl;(exact atks);kernel_rfl;intro r' hl')|(refine acl Tryz.func60 ?_;refine acr (hby _ ((hr5.trans hr6).trans hl'.1)) ?_;rintro v' H' ⟨a10,c10,rfl,rfl⟩;refine apl ?_)|((with_reducible apply z5e (d:=some 119));exact ty_el;exact z03;rfl;rfl;rfl;(exact qcs);rfl;intro bq;(refine apk ?_))|((with_reducible refine z0u ?_);(with_reducible apply z0k [(bq,.cells [.slice a7 yd.length c7,.slice az yd.length cz,.slice ay yd.length cy,.slice a10 yd.length c10].toArray 26 (0,0))]);(exact atks);intro r7 hl7;(with_reducible apply z0v (news:=[.slice a7 yd.length c7,.slice az yd.length cz,.slice ay yd.length cy,.slice a10 yd.length c10]));exact ty_el;exact z03;rfl;rfl;rfl;rfl;exact (Sl.lit (n:=4) (Lent.h1 hl7) rfl (by simp [maxLen]));(exact atk);rfl;(unfold maxLen;omega);(omega);intro a' c';refine apm ?_)|((with_reducible apply z0b (c:= .region 9 _ _) (As:=[ByC ((X++[(⟨a7,c7,yd⟩:RowV)]++[(⟨az,cz,yd⟩:RowV)]++[(⟨ay,cy,yd⟩:RowV)]).map rB),U8R (.slice a10 yd.length c10) yd]) (D:=ByC ((X++[(⟨a7,c7,yd⟩:RowV)]++[(⟨az,cz,yd⟩:RowV)]++[(⟨ay,cy,yd⟩:RowV)]++[(⟨a10,c10,yd⟩:RowV)]).map rB)));((exact atks));exact z6p (x:=⟨a10,c10,yd⟩))|exact xf|refine aw0 ?_|(refine ap2 ?_ ?_<;>try intro h)|refine aw1 ?_|(refine abx ?_;intro bb)|(refine abz ?_;intro bz)|(refine ahv ?_;intro v' hv')|(refine aac ?_;intro ac cc)|refine aw2 ?_|(refine ap4 ?_ ?_<;>try intro h)|apply True.intro)
     have hXX:(X++[(⟨a7,c7,yd⟩:RowV)]++[(⟨az,cz,yd⟩:RowV)]++[(⟨ay,cy,yd⟩:RowV)]++[(⟨a10,c10,yd⟩:RowV)]).flatMap encS=X.flatMap encS++[.slice a7 yd.length c7,.slice az yd.length cz,.slice ay yd.length cy,.slice a10 yd.length c10]:=by
      simp only [List.flatMap_append,List.append_assoc]
      rfl
     have hXY:(X++[(⟨a7,c7,yd⟩:RowV)]++[(⟨az,cz,yd⟩:RowV)]++[(⟨ay,cy,yd⟩:RowV)]++[(⟨a10,c10,yd⟩:RowV)]).length=4*(m+1):=by
      simp only [List.length_append,List.length_singleton]
      omega
     have hXZ : ∀ x∈X++[(⟨a7,c7,yd⟩:RowV)]++[(⟨az,cz,yd⟩:RowV)]++[(⟨ay,cy,yd⟩:RowV)]++[(⟨a10,c10,yd⟩:RowV)],x.l.length<=1000000:=fun x hx=>by
      simp only [List.mem_append,List.mem_singleton] at hx
      rcases hx with (((hx|rfl)|rfl)|rfl)|rfl
      · exact hXl x hx
      all_goals (show yd.length<=1000000;omega)
     exact ⟨_,by omega,m+1,(m:Int)+1,a',c',X++[(⟨a7,c7,yd⟩:RowV)]++[(⟨az,cz,yd⟩:RowV)]++[(⟨ay,cy,yd⟩:RowV)]++[(⟨a10,c10,yd⟩:RowV)],rfl,hXY,by omega,hXZ,⟨_,by rw [hXX,show 4*(m+1)=4*m+4 by omega];exact atks⟩,asls⟩
   · have hby:=zb9 r v ks i hS hkd
     rw [show dataAt ks i=[] by unfold dataAt;rw [if_neg hin]] at hby
     have hli:=z7v r v ks i hS hkd
     rw [if_neg hin] at hli
     repeat' (first|(refine acl Tryz.func60 ?_;refine acr (hby) ?_;rintro v' H' ⟨a7,c7,rfl,rfl⟩;refine apl ?_)|(refine acl Tryz.func27 ?_;refine acr (hli) ?_;rintro v' H' ⟨a8,c8,rfl,rfl⟩;refine apl ?_)|exact xf|refine aw0 ?_|(refine ap2 ?_ ?_<;>try intro h)|refine aw1 ?_|(refine abx ?_;intro bb)|(refine abz ?_;intro bz)|(refine ahv ?_;intro v' hv')|(refine aac ?_;intro ac cc)|refine aw2 ?_|(refine ap4 ?_ ?_<;>try intro h)|apply True.intro)
     all_goals exact ⟨_,by omega,m,i+1,a9,c9,X,rfl,hXn,by omega,hXl,⟨_,atks⟩,asls⟩
end Go.Proofs.YtohpeoakdgckfaaGreat
