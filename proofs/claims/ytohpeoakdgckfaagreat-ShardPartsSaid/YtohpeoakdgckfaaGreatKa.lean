/- mudlarkref22: Files, Of: their contracts. -/
import Derived.Test.YtohpeoakdgckfaaGreatDb
import Derived.Sort.Walk0
set_option maxHeartbeats 2000000
set_option maxRecDepth 10000
namespace Go.Proofs.YtohpeoakdgckfaaGreat
open Go.RowKit Sx
attribute [local go_sem] Oper.semAt_some
theorem Sx.Els.cell {α:Type} {r:Hp} {sz n cap:Nat} {enc:α->List Value} {a:Option Addr} {xs:List α} (h:Els r sz enc (.slice a n cap) xs) {k:Nat} (hk:k<xs.length) (hn:xs.length=n) :
 ∃ b off,a=some ⟨b,off,none⟩ /\ ∀ j u,(enc xs[k])[j]?=some u -> ∀ r' H,sub r r'->Rd1 r' H ⟨b,off+k*sz+j,none⟩ u:=by
 obtain ⟨b,off,e,hc⟩:=h.at hk hn
 refine ⟨b,off,e,fun j u hu r' H hr=>?_⟩
 obtain ⟨hj,rfl⟩:=List.getElem?_eq_some_iff.1 hu
 have:=hc r' H hr j (by simpa using hj)
 rw [z1g] at this
 simpa using this
def goodAt (fs:List FileV) (j:Nat):Bool:=match fs[j]? with
 | none=>false
 | some f=>refOk f.path && !(decide (1048576<f.data.length)) && (decide (j=0) || match fs[j - 1]? with|none=>false|some e=>Op.bytesLess e.path f.path)
theorem zd0 {n k:Nat} {p:Nat->Bool} (hk:k<n) (h:p k=false):(List.range n).all p=false:=by
 rw [List.all_eq_false];exact ⟨k,by simpa using hk,by simp [h]⟩
theorem zd1 {k:Nat} {p:Nat->Bool} (h:(List.range k).all p=true) (hk:p k=true):(List.range (k+1)).all p=true:=by
 rw [List.range_succ,List.all_append,h];simp [hk]
theorem zkb (r:Hp) (v:Value) (fs:List FileV) (hv:Files r v fs) (hl : ∀ x∈fs,x.path.length<=1000000):Tri Tryz.prog r 94 [v] [] fun w H=>w = .bool ((List.range fs.length).all (goodAt fs) && decide (fs.length<=4000))/\H=[]:=by
 refine Tri.free fun R HR=>?_
 obtain ⟨a,c,rfl⟩:=hv.1.form
 obtain ⟨n,hn⟩ : ∃ n,fs.length=n:=⟨_,rfl⟩
 have hnm:=hv.1.2.2.1
 unfold maxLen at hnm
 rw [hn] at HR hv hnm ⊢
 have HV:=hid hv
 have HL:=hid hl
 have HN:=hid hn
 clear hv hl hn
 refine ae Tryz.func94 Tryz.ntmps94 ?_
 repeat' (first|refine ax0m ?_|(refine abb ?_;intro b)|refine ax1m ?_|(refine aac ?_;intro ac cc)|refine ax2m ?_|(refine ap3 ?_ ?_<;>try intro h)|apply True.intro)
 refine z04 (fun g t H' => ∃ k:Nat,g=n+1 - k/\k<=n/\(List.range k).all (goodAt fs)=true/\(∃ G,Takes [] H' G)/\(t.length=47/\t[0]?=some (.slice a n c)/\t[3]?=some (.int .i64 k))) (n+1)
  ⟨0,rfl,Nat.zero_le _,rfl,⟨[],by (exact atks)⟩,rfl,rfl,rfl⟩ ?_
 rintro g t H' ⟨k,rfl,hk,hall,⟨G,hp⟩,hlen,e0,e3⟩
 revert e0 e3;revert t;refine z0s (n:=47) ?_;intro u0 u1 u2 u3 u4 u5 u6 u7 u8 u9 u10 u11 u12 u13 u14 u15 u16 u17 u18 u19 u20 u21 u22 u23 u24 u25 u26 u27 u28 u29 u30 u31 u32 u33 u34 u35 u36 u37 u38 u39 u40 u41 u42 u43 u44 u45 u46 e0 e3;cases e0;cases e3
 refine z01 hp ?_
 have HA:=hid hall
 clear hp hall
 by_cases hlt:k<n
 · have hkx:k<fs.length:=by rw [HN.out];exact hlt
   obtain ⟨b,off,rfl,hc⟩:=HV.out.1.cell hkx HN.out
   have hs:=HV.out.2 _ (List.getElem_mem hkx)
   have hpl:=HL.out _ (List.getElem_mem hkx)
   have hga:goodAt fs k=(refOk fs[k].path && !(decide (1048576<fs[k].data.length)) && (decide (k=0) || match fs[k - 1]? with|none=>false|some e=>Op.bytesLess e.path fs[k].path)):=by
    unfold goodAt;rw [List.getElem?_eq_getElem hkx]
   obtain ⟨x,hx⟩ : ∃ x,fs[k]=x:=⟨_,rfl⟩
   rw [hx] at hc hs hpl hga
   obtain ⟨p,w,l⟩:=x
   dsimp only at hs hpl hga
   obtain ⟨aw,cw,rfl⟩:=hs.form
   have hc0:=hc 0 _ rfl
   have hc1:=hc 1 _ rfl
   have hrr:=fun r'=>zbl r' (bs p) (by rw [z0x];exact hpl)
   rw [show (bs p).data.toList=p from rfl] at hrr
   obtain ⟨q1,h1⟩ : ∃ q1,refOk p=q1:=⟨_,rfl⟩
   rw [h1] at hrr hga
   obtain ⟨q2,h2⟩ : ∃ q2,decide (1048576<(l.length:Int))=q2:=⟨_,rfl⟩
   rw [show decide (1048576<l.length)=q2 by rw [← h2];congr 1;simp;omega] at hga
   dsimp only at hc0 hc1
   have HRR:=hid hrr
   have HGA:=hid hga
   have HC0:=hid hc0
   have HC1:=hid hc1
   clear hrr hga hc hs hx h1 hc0 hc1
   cases q1
   · repeat' (first|refine ax0m ?_|(refine abb ?_;intro b)|refine ax1m ?_|(refine aac ?_;intro ac cc)|refine ax2m ?_|(refine ap3 ?_ ?_<;>try intro h)|apply True.intro)
     ((with_reducible apply z02 (id:=4) 34 [(0,true),(1,true),(2,true),(3,true),(4,true),(5,false),(6,true),(7,true),(8,true),(9,true),(10,true),(11,true),(12,true),(13,true),(14,true),(15,true),(16,true),(17,true),(18,true),(19,true),(20,true),(21,true),(22,true),(23,true),(24,true),(25,true),(26,true),(27,true),(28,true),(29,true),(30,true),(31,true),(32,true),(33,true)] [] []);kernel_rfl;(exact atks);kernel_rfl;intro r' hl')
     have hc0:=HC0.out r' [] hl'.1
     repeat' (first|refine ax0m ?_|(refine abb ?_;intro b)|(refine acl Tryz.func155 ?_;refine acr (HRR.out r') ?_;rintro v' H' ⟨rfl,rfl⟩;refine apl ?_)|refine ax1m ?_|(refine aac ?_;intro ac cc)|refine ax2m ?_|(refine ap3 ?_ ?_<;>try intro h)|apply True.intro)
     ((with_reducible apply z00);exact res_1 rfl rfl)
     exact HR.out _ [] _ _ atks ⟨by rw [zd0 hlt HGA.out];rfl,rfl⟩
   · cases q2
     · by_cases hk0:k=0
       · subst hk0
         repeat' (first|refine ax0m ?_|(refine abb ?_;intro b)|refine ax1m ?_|(refine aac ?_;intro ac cc)|refine ax2m ?_|(refine ap3 ?_ ?_<;>try intro h)|apply True.intro)
         ((with_reducible apply z02 (id:=4) 34 [(0,true),(1,true),(2,true),(3,true),(4,true),(5,false),(6,true),(7,true),(8,true),(9,true),(10,true),(11,true),(12,true),(13,true),(14,true),(15,true),(16,true),(17,true),(18,true),(19,true),(20,true),(21,true),(22,true),(23,true),(24,true),(25,true),(26,true),(27,true),(28,true),(29,true),(30,true),(31,true),(32,true),(33,true)] [] []);kernel_rfl;(exact atks);kernel_rfl;intro r' hl')
         have hc0:=HC0.out r' [] hl'.1
         have hc1:=HC1.out r' [] hl'.1
         simp only [Nat.zero_mul,Nat.add_zero] at hc0 hc1
         repeat' (first|refine ax0m ?_|(refine abb ?_;intro b)|(refine acl Tryz.func155 ?_;refine acr (HRR.out r') ?_;rintro v' H' ⟨rfl,rfl⟩;refine apl ?_)|refine ax1m ?_|(refine aac ?_;intro ac cc)|refine ax2m ?_|(refine ap3 ?_ ?_<;>try intro h)|apply True.intro)
         exact ⟨_,by omega,1,rfl,by omega,zd1 HA.out (by rw [HGA.out];simp),⟨[],by (exact atks)⟩,rfl,rfl,rfl⟩
       · obtain ⟨j,rfl⟩ : ∃ j,k=j+1:=⟨k - 1,by omega⟩
         have hjx:j<fs.length:=by omega
         obtain ⟨b',off',e,hcj⟩:=Sx.Els.cell HV.out.1 hjx HN.out
         obtain ⟨rfl,rfl⟩:b=b'/\off=off':=by injection e with e;injection e with e1 e2;exact ⟨e1,e2⟩
         obtain ⟨y,hy⟩ : ∃ y,fs[j]=y:=⟨_,rfl⟩
         rw [hy] at hcj
         obtain ⟨p2,w2,l2⟩:=y
         have hcj0:=hcj 0 _ rfl
         dsimp only at hcj0
         obtain ⟨q3,h3⟩ : ∃ q3,Op.bytesLess (bs p2).toList (bs p).toList=q3:=⟨_,rfl⟩
         have hga2:goodAt fs (j+1)=q3:=by
          rw [HGA.out]
          simp only [Nat.add_sub_cancel,List.getElem?_eq_getElem hjx,hy]
          rw [← h3,z0r,z0r];simp
         have HGA2:=hid hga2
         have HCJ:=hid hcj0
         clear hga2 hcj0 hcj hy e HGA
         cases q3
         · repeat' (first|refine ax0m ?_|(refine abb ?_;intro b)|refine ax1m ?_|(refine aac ?_;intro ac cc)|refine ax2m ?_|(refine ap3 ?_ ?_<;>try intro h)|apply True.intro)
           ((with_reducible apply z02 (id:=4) 34 [(0,true),(1,true),(2,true),(3,true),(4,true),(5,false),(6,true),(7,true),(8,true),(9,true),(10,true),(11,true),(12,true),(13,true),(14,true),(15,true),(16,true),(17,true),(18,true),(19,true),(20,true),(21,true),(22,true),(23,true),(24,true),(25,true),(26,true),(27,true),(28,true),(29,true),(30,true),(31,true),(32,true),(33,true)] [] []);kernel_rfl;(exact atks);kernel_rfl;intro r' hl')
           have hc0:=HC0.out r' [] hl'.1
           have hc1:=HC1.out r' [] hl'.1
           have hcj:=HCJ.out r' [] hl'.1
           repeat' (first|refine ax0m ?_|(refine abb ?_;intro b)|(refine acl Tryz.func155 ?_;refine acr (HRR.out r') ?_;rintro v' H' ⟨rfl,rfl⟩;refine apl ?_)|refine ax1m ?_|(refine aac ?_;intro ac cc)|refine ax2m ?_|(refine ap3 ?_ ?_<;>try intro h)|apply True.intro)
           ((with_reducible apply z00);exact res_1 rfl rfl)
           exact HR.out _ [] _ _ atks ⟨by rw [zd0 hlt HGA2.out];rfl,rfl⟩
         · repeat' (first|refine ax0m ?_|(refine abb ?_;intro b)|refine ax1m ?_|(refine aac ?_;intro ac cc)|refine ax2m ?_|(refine ap3 ?_ ?_<;>try intro h)|apply True.intro)
           ((with_reducible apply z02 (id:=4) 34 [(0,true),(1,true),(2,true),(3,true),(4,true),(5,false),(6,true),(7,true),(8,true),(9,true),(10,true),(11,true),(12,true),(13,true),(14,true),(15,true),(16,true),(17,true),(18,true),(19,true),(20,true),(21,true),(22,true),(23,true),(24,true),(25,true),(26,true),(27,true),(28,true),(29,true),(30,true),(31,true),(32,true),(33,true)] [] []);kernel_rfl;(exact atks);kernel_rfl;intro r' hl')
           have hc0:=HC0.out r' [] hl'.1
           have hc1:=HC1.out r' [] hl'.1
           have hcj:=HCJ.out r' [] hl'.1
           repeat' (first|refine ax0m ?_|(refine abb ?_;intro b)|(refine acl Tryz.func155 ?_;refine acr (HRR.out r') ?_;rintro v' H' ⟨rfl,rfl⟩;refine apl ?_)|refine ax1m ?_|(refine aac ?_;intro ac cc)|refine ax2m ?_|(refine ap3 ?_ ?_<;>try intro h)|apply True.intro)
           exact ⟨_,by omega,j+2,rfl,by omega,zd1 HA.out HGA2.out,⟨[],by (exact atks)⟩,rfl,rfl,rfl⟩
     · repeat' (first|refine ax0m ?_|(refine abb ?_;intro b)|refine ax1m ?_|(refine aac ?_;intro ac cc)|refine ax2m ?_|(refine ap3 ?_ ?_<;>try intro h)|apply True.intro)
       ((with_reducible apply z02 (id:=4) 34 [(0,true),(1,true),(2,true),(3,true),(4,true),(5,false),(6,true),(7,true),(8,true),(9,true),(10,true),(11,true),(12,true),(13,true),(14,true),(15,true),(16,true),(17,true),(18,true),(19,true),(20,true),(21,true),(22,true),(23,true),(24,true),(25,true),(26,true),(27,true),(28,true),(29,true),(30,true),(31,true),(32,true),(33,true)] [] []);kernel_rfl;(exact atks);kernel_rfl;intro r' hl')
       have hc0:=HC0.out r' [] hl'.1
       have hc1:=HC1.out r' [] hl'.1
       repeat' (first|refine ax0m ?_|(refine abb ?_;intro b)|(refine acl Tryz.func155 ?_;refine acr (HRR.out r') ?_;rintro v' H' ⟨rfl,rfl⟩;refine apl ?_)|refine ax1m ?_|(refine aac ?_;intro ac cc)|refine ax2m ?_|(refine ap3 ?_ ?_<;>try intro h)|apply True.intro)
       ((with_reducible apply z00);exact res_1 rfl rfl)
       exact HR.out _ [] _ _ atks ⟨by rw [zd0 hlt HGA.out];rfl,rfl⟩
 · obtain rfl:k=n:=by omega
   repeat' (first|refine ax0m ?_|(refine abb ?_;intro b)|refine ax1m ?_|(refine aac ?_;intro ac cc)|refine ax2m ?_|(refine ap3 ?_ ?_<;>try intro h)|apply True.intro)
   ((with_reducible apply z00);exact res_1 rfl rfl)
   exact HR.out _ [] _ _ atks ⟨by rw [HA.out,Bool.true_and];congr 2;simp;omega,rfl⟩
def refFiles (fs:List FileV):Bool:=(List.range fs.length).all (goodAt fs) && decide (fs.length<=4000)
theorem zf1 (r:Hp) (v:Value) (fs:List FileV) (hv:Files r v fs) (hl : ∀ x∈fs,x.path.length<=1000000):Tri Tryz.prog r 40 [v] [] fun w H =>
 if refFiles fs then ∃ a c,w = .tuple #[.slice a fs.length c,.int .i64 0]/\H=[DocR (.slice a fs.length c) (fs.map docOf)] else w = .tuple #[.slice none 0 0,.int .i64 2]/\H=[]:=by
 refine Tri.free fun R HR=>?_
 have hok:=zkb r v fs hv hl
 rw [show ((List.range fs.length).all (goodAt fs) && decide (fs.length<=4000))=refFiles fs from rfl] at hok
 obtain ⟨a,c,rfl⟩:=hv.1.form
 obtain ⟨q,hq⟩ : ∃ q,refFiles fs=q:=⟨_,rfl⟩
 rw [hq] at hok HR
 have HQ:=hid hq
 have HV:=hid hv
 have HL:=hid hl
 have HOK:=hid hok
 clear hok hq hl hv
 cases q
 · refine ae Tryz.func40 Tryz.ntmps40 ?_
   repeat' (first|refine ax0m ?_|(refine abb ?_;intro b)|(refine acl Tryz.func94 ?_;refine acr (HOK.out) ?_;rintro v' H' ⟨rfl,rfl⟩;refine apl ?_)|refine ax1m ?_|(refine aac ?_;intro ac cc)|refine ax2m ?_|(refine ap3 ?_ ?_<;>try intro h)|apply True.intro)
   ((with_reducible apply z00);exact res_2 rfl rfl rfl)
   exact HR.out _ [] _ _ atks ⟨rfl,rfl⟩
 · obtain ⟨n,hn⟩ : ∃ n,fs.length=n:=⟨_,rfl⟩
   have hn4:n<=4000:=by
    have:=HQ.out
    unfold refFiles at this
    rw [← hn]
    simp only [Bool.and_eq_true,decide_eq_true_eq] at this
    exact this.2
   rw [hn] at HR HOK HV ⊢
   have HN:=hid hn
   clear hn
   refine ae Tryz.func40 Tryz.ntmps40 ?_
   repeat' (first|refine ax0m ?_|(refine abb ?_;intro b)|(refine acl Tryz.func94 ?_;refine acr (HOK.out) ?_;rintro v' H' ⟨rfl,rfl⟩;refine apl ?_)|refine ax1m ?_|(refine aac ?_;intro ac cc)|refine ax2m ?_|(refine ap3 ?_ ?_<;>try intro h)|apply True.intro)
   refine z0f (A:=RowC 119 4 (.slice none 0 0) 0 []) (RowC.nil _ _) ?_
   refine z04 (fun g t H' => ∃ (k:Nat) (a':Option Addr) (c':Nat),g=n+1 - k/\k<=n/\(∃ G,Takes [RowC 119 4 (.slice a' k c') k (((fs.take k).map docOf).flatMap encD)] H' G)/\(t.length=43/\t[0]?=some (.slice a n c)/\t[4]?=some (.slice a' k c')/\t[5]?=some (.int .i64 k))) (n+1)
    ⟨0,none,0,rfl,Nat.zero_le _,⟨[],by (exact atks)⟩,rfl,rfl,rfl,rfl⟩ ?_
   rintro g t H' ⟨k,a1,c1,rfl,hk,⟨G,hp⟩,hlen,e0,e4,e5⟩
   revert e0 e4 e5;revert t;refine z0s (n:=43) ?_;intro u0 u1 u2 u3 u4 u5 u6 u7 u8 u9 u10 u11 u12 u13 u14 u15 u16 u17 u18 u19 u20 u21 u22 u23 u24 u25 u26 u27 u28 u29 u30 u31 u32 u33 u34 u35 u36 u37 u38 u39 u40 u41 u42 e0 e4 e5;cases e0;cases e4;cases e5
   refine z01 hp ?_
   clear hp
   by_cases hlt:k<n
   · have hkx:k<fs.length:=by rw [HN.out];exact hlt
     obtain ⟨b,off,rfl,hc⟩:=Sx.Els.cell HV.out.1 hkx HN.out
     have hs:=HV.out.2 _ (List.getElem_mem hkx)
     have hpl:=HL.out _ (List.getElem_mem hkx)
     obtain ⟨x,hx⟩ : ∃ x,fs[k]=x:=⟨_,rfl⟩
     rw [hx] at hc hs hpl
     obtain ⟨p,w,l⟩:=x
     dsimp only at hs hpl
     obtain ⟨aw,cw,rfl⟩:=hs.form
     have hc0:=hc 0 _ rfl
     have hc1:=hc 1 _ rfl
     dsimp only at hc0 hc1
     have hrf:=fun r'=>zml r' (bs p) (by rw [z0x];exact hpl)
     rw [show (bs p).data.toList=p from rfl] at hrf
     have htk:((fs.take (k+1)).map docOf).flatMap encD=((fs.take k).map docOf).flatMap encD++[.string (bs p),.string (bs (langOf p)),.int .u32 (inv32 (crcAll 4294967295 l):Nat),.int .i64 l.length]:=by
      rw [List.take_succ_eq_append_getElem hkx,hx];simp [docOf,encD]
     have HTK:=hid htk
     have HRF:=hid hrf
     have HS:=hid hs
     have HC0:=hid hc0
     have HC1:=hid hc1
     clear htk hrf hs hc hc0 hc1
     obtain ⟨xs,hxs⟩ : ∃ xs,((fs.take k).map docOf).flatMap encD=xs:=⟨_,rfl⟩
     rw [hxs] at HTK ⊢
     clear hx hxs
     repeat' (first|refine ax0m ?_|(refine abb ?_;intro b)|refine ax1m ?_|(refine aac ?_;intro ac cc)|refine ax2m ?_|(refine ap3 ?_ ?_<;>try intro h)|apply True.intro)
     ((with_reducible apply z02 (id:=7) 27 [(0,true),(1,true),(2,true),(3,true),(4,true),(5,true),(6,true),(7,true),(8,true),(9,true),(10,true),(12,true),(13,true),(14,true),(15,true),(16,true),(18,true),(19,true),(20,true),(21,true),(22,true),(23,true),(11,false),(17,false),(24,false),(25,false),(26,false)] [(27,false)] []);kernel_rfl;(exact atks);kernel_rfl;intro r' hl')
     have hc0:=HC0.out r' [] hl'.1
     have hc1:=HC1.out r' [] hl'.1
     repeat' (first|(refine acl Tryz.func95 ?_;refine acr (HRF.out r') ?_;rintro v' H' ⟨rfl,rfl⟩;refine apl ?_)|(refine acl Tryz.func63 ?_;refine acr (zck r' _ l.length l (HS.out.mono hl'.1)) ?_;rintro v' H' ⟨rfl,rfl⟩;refine apl ?_)|(first|((with_reducible apply z0t);exact ty_el;exact z03;rfl;rfl;rfl;intro bz;(refine apk ?_))|((with_reducible apply z0y);exact ty_el;exact z03;rfl;rfl;rfl;intro bz;(refine apk ?_)))|(first|((with_reducible apply z0d);exact ty_el;exact z03;rfl;rfl;rfl;(exact atk);(exact atk);rfl;(omega);intro a' c';(refine apk ?_))|((with_reducible apply z0m);exact ty_el;exact z03;rfl;rfl;rfl;rfl;(exact atk);(exact atk);rfl;rfl;(omega);intro a' c';(refine apk ?_)))|refine ax0 ?_|(refine abb ?_;intro b)|refine ax1 ?_|(refine aac ?_;intro ac cc)|refine ax2 ?_|(refine ap3 ?_ ?_<;>try intro h)|apply True.intro)
     exact ⟨_,by omega,k+1,a',c',rfl,by omega,⟨_,by rw [HTK.out];(exact atks)⟩,rfl,rfl,rfl,rfl⟩
   · obtain rfl:k=n:=by omega
     rw [List.take_of_length_le (by rw [HN.out];omega)]
     repeat' (first|refine ax0m ?_|(refine abb ?_;intro b)|refine ax1m ?_|(refine aac ?_;intro ac cc)|refine ax2m ?_|(refine ap3 ?_ ?_<;>try intro h)|apply True.intro)
     ((with_reducible apply z00);exact res_2 rfl rfl rfl)
     exact HR.out _ [] _ _ atks ⟨a1,c1,rfl,by unfold DocR;rw [List.length_map,HN.out]⟩
end Go.Proofs.YtohpeoakdgckfaaGreat
