/- slices.IndexFunc and ContainsFunc over files and docs. -/
import Derived.Test.YtohpeoakdgckfaaGreatWd
import Derived.Test.YtohpeoakdgckfaaGreatSx
import Derived.Test.YtohpeoakdgckfaaGreatPu
import Derived.Test.YtohpeoakdgckfaaGreatIdx
import Derived.Test.YtohpeoakdgckfaaGreatGo
set_option maxHeartbeats 2000000
set_option maxRecDepth 10000
namespace Go.Proofs.YtohpeoakdgckfaaGreat
open Go.RowKit Sx
structure FileV where
 path:List UInt8
 val:Value
 data:List UInt8
 deriving Inhabited
structure DocV where
 path:List UInt8
 lang:List UInt8
 sum:Nat
 size:Int
 deriving Inhabited,DecidableEq
def encF (f:FileV):List Value:=[.string (bs f.path),f.val]
def encD (d:DocV):List Value:=[.string (bs d.path),.string (bs d.lang),.int .u32 d.sum,.int .i64 d.size]
abbrev Files (r:Hp) (v:Value) (fs:List FileV):Prop:=Els r 2 encF v fs /\ ∀ f∈fs,U8S r f.val f.data
abbrev Docs (r:Hp) (v:Value) (ds:List DocV):Prop:=Els r 4 encD v ds
def idx (o:Option Nat):Int:=match o with|some k=>k|none => -1
theorem z6i {α:Type} {q:α->Bool} {xs:List α} {k:Nat} (hk:k<xs.length) (h:(xs.take k).findIdx? q=none):(xs.take (k+1)).findIdx? q=if q xs[k] then some k else none:=by
 rw [List.take_succ_eq_append_getElem hk,List.findIdx?_append,h]
 simp only [List.findIdx?_cons,List.findIdx?_nil,List.length_take,Nat.min_eq_left (Nat.le_of_lt hk)]
 cases q xs[k]<;>simp
theorem z8s {α:Type} {q:α->Bool} {xs:List α} {k:Nat} (hk:k<xs.length) (h:(xs.take k).findIdx? q=none) (hq:q xs[k]=true):xs.findIdx? q=some k:=by
 have h1:=z6i hk h
 rw [hq] at h1
 conv=>lhs;rw [← List.take_append_drop (k+1) xs]
 rw [List.findIdx?_append,h1];rfl
theorem z10 {α:Type} {k:Nat} {l:List α} {d:α} (h:k<l.length):l.take (k+1)=l.take k++[l.getD k d]:=by
 rw [List.take_succ_eq_append_getElem h];simp [h]
theorem z8t {α:Type} {k:Nat} {l m:List α} {d:α} (ht:l.take k=m.take k) (h1:k<l.length) (h2:k<m.length) (h:l.getD k d=m.getD k d):l.take (k+1)=m.take (k+1):=by
 rw [z10 (d:=d) h1,z10 (d:=d) h2,ht,h]
theorem z6j {α:Type} {k:Nat} {l m:List α} (ht:l.take k=m.take k) (h1:l.length<=k) (h2:m.length<=k):l=m:=by
 rwa [List.take_of_length_le h1,List.take_of_length_le h2] at ht
theorem maxI {n:Nat} (h:n<=maxLen):n<=9223372036854775807:=by unfold maxLen at h;omega
theorem z21 (r:Hp) (v w:Value) (l m:List UInt8) (hv:U8S r v l) (hw:U8S r w m):Tri Tryz.prog r 12 [v,w] [] fun u H=>u = .bool (decide (l=m))/\H=[]:=by
 refine Tri.free fun R HR=>?_
 have hlm:=maxI hv.2.1
 refine ae Tryz.func12 Tryz.ntmps12 ?_
 repeat' (first|refine aw0m ?_|(refine ap2 ?_ ?_<;>try intro h)|refine aw1m ?_|(refine abx ?_;intro bb)|(refine abz ?_;intro bz)|(refine ahv ?_;intro v' hv')|(refine aac ?_;intro ac cc)|refine aw2 ?_|(refine ap4 ?_ ?_<;>try intro h)|apply True.intro)
 · ((with_reducible apply z00);exact res_1 rfl rfl)
   exact HR.out _ [] _ _ atks ⟨by rw [decide_eq_false];rintro rfl;exact h rfl,rfl⟩
 · refine z04 (fun gm t H' => ∃ k:Nat,gm=l.length+1 - k/\(k<=l.length)/\(l.take k=m.take k)/\(∃ G,Takes [] H' G)/\Sls t 26 [(0,v),(1,w),(5,.int .i64 k)]) _ ⟨0,rfl,Nat.zero_le _,by simp,⟨[],atks⟩,asls⟩ ?_
   rintro gm t H' ⟨k,rfl,hk,ht,⟨G,hp⟩,hs'⟩
   revert t;refine z06 ?_;iterate 23 intro uu'
   refine z01 hp ?_;clear hp
   repeat' (first|refine aw0m ?_|(refine ap2 ?_ ?_<;>try intro h)|(first|((with_reducible apply z02 (id:=6) 9 [(0,true),(1,true),(2,true),(3,true),(4,true),(5,true),(6,true),(7,true),(8,true)] [] []);kernel_rfl;(exact atks);kernel_rfl;intro r' hl'))|refine aw1m ?_|(refine abx ?_;intro bb)|(refine abz ?_;intro bz)|(refine ahv ?_;intro v' hv')|(refine aac ?_;intro ac cc)|refine aw2 ?_|(refine ap4 ?_ ?_<;>try intro h)|apply True.intro)
   · ((with_reducible apply z00);exact res_1 rfl rfl)
     exact HR.out _ [] _ _ atks ⟨by rw [decide_eq_false];rintro rfl;exact h rfl,rfl⟩
   · exact ⟨_,by omega,k+1,rfl,by omega,z8t (d:=0) ht (by omega) (by omega) (UInt8.toNat_inj.1 (by omega)),⟨_,atks⟩,asls⟩
   · ((with_reducible apply z00);exact res_1 rfl rfl)
     exact HR.out _ [] _ _ atks ⟨by rw [decide_eq_true (z6j ht (by omega) (by omega))],rfl⟩
def encI (i:Int):List Value:=[.int .i64 i]
theorem zsc {l m:List Int} (hn:l.length=m.length) (h : ∀ k,k<l.length->l.getD k default=m.getD k default):l=m:=by
 refine List.ext_getElem hn fun k h1 h2=>?_
 have:=h k h1
 rw [List.getD_eq_getElem?_getD,List.getD_eq_getElem?_getD,List.getElem?_eq_getElem h1,List.getElem?_eq_getElem h2] at this
 exact this
theorem zdh (r:Hp) (v w:Value) (l m:List Int) (hv:Els r 1 encI v l) (hw:Els r 1 encI w m):Tri Tryz.prog r 61 [v,w] [] fun u H=>u = .bool (decide (l=m))/\H=[]:=by
 refine Tri.free2 fun R HR=>?_
 have hln:l.length<=maxLen:=hv.2.2.1
 have hmn:m.length<=maxLen:=hw.2.2.1
 unfold maxLen at hln hmn
 by_cases hlm:l.length=m.length
 · refine ae Tryz.func61 Tryz.ntmps61 ?_
   repeat' (first|exact xf|refine aw0 ?_|(refine ap2 ?_ ?_<;>try intro h)|refine aw1 ?_|(refine abx ?_;intro bb)|(refine abz ?_;intro bz)|(refine ahv ?_;intro v' hv')|(refine aac ?_;intro ac cc)|refine aw2 ?_|(refine ap4 ?_ ?_<;>try intro h)|apply True.intro)
   refine z04 (fun gm t H' => ∃ k:Nat,gm=l.length+1 - k/\(k<=l.length)/\(∀ j,j<k->l.getD j default=m.getD j default)/\(∃ G,Takes [] H' G)/\Sls t 26 [(0,v),(1,w),(5,.int .i64 k)]) _ ⟨0,rfl,Nat.zero_le _,fun j h=>absurd h (by omega),⟨_,by (exact atks)⟩,asls⟩ ?_
   rintro gm t H' ⟨k,rfl,hk,hs,⟨G,hp⟩,hs'⟩
   revert t;refine z06 ?_;iterate 23 intro uu'
   refine z01 hp ?_;clear hp
   by_cases hlt:k<l.length
   · by_cases he:l.getD k default=m.getD k default
     · repeat' (first|(first|((with_reducible apply z02 (id:=6) 9 [(0,true),(1,true),(2,true),(3,true),(4,true),(5,true),(6,true),(7,true),(8,true)] [] []);kernel_rfl;(exact atks);kernel_rfl;intro r' hl'))|exact xf|refine aw0 ?_|(refine ap2 ?_ ?_<;>try intro h)|refine aw1 ?_|(refine abx ?_;intro bb)|(refine abz ?_;intro bz)|(refine ahv ?_;intro v' hv')|(refine aac ?_;intro ac cc)|refine aw2 ?_|(refine ap4 ?_ ?_<;>try intro h)|apply True.intro)
       all_goals exact ⟨_,by omega,k+1,rfl,by omega,fun j h=>(by
        by_cases c:j=k
        · rw [c];exact he
        · exact hs j (by omega)),⟨_,atks⟩,asls⟩
     · have hne:¬ l=m:=fun e=>he (by rw [e])
       rw [decide_eq_false hne] at HR
       repeat' (first|(first|((with_reducible apply z02 (id:=6) 9 [(0,true),(1,true),(2,true),(3,true),(4,true),(5,true),(6,true),(7,true),(8,true)] [] []);kernel_rfl;(exact atks);kernel_rfl;intro r' hl'))|exact xf|refine aw0 ?_|(refine ap2 ?_ ?_<;>try intro h)|refine aw1 ?_|(refine abx ?_;intro bb)|(refine abz ?_;intro bz)|(refine ahv ?_;intro v' hv')|(refine aac ?_;intro ac cc)|refine aw2 ?_|(refine ap4 ?_ ?_<;>try intro h)|apply True.intro)
       all_goals (((with_reducible apply z00);exact res_1 rfl rfl);exact HR.out _ _ _ [] Takes.all ⟨rfl,rfl⟩)
   · obtain rfl:k=l.length:=by omega
     rw [decide_eq_true (zsc hlm hs)] at HR
     repeat' (first|exact xf|refine aw0 ?_|(refine ap2 ?_ ?_<;>try intro h)|refine aw1 ?_|(refine abx ?_;intro bb)|(refine abz ?_;intro bz)|(refine ahv ?_;intro v' hv')|(refine aac ?_;intro ac cc)|refine aw2 ?_|(refine ap4 ?_ ?_<;>try intro h)|apply True.intro)
     all_goals (((with_reducible apply z00);exact res_1 rfl rfl);exact HR.out _ _ _ [] Takes.all ⟨rfl,rfl⟩)
 · have hne:¬ l=m:=fun e=>hlm (by rw [e])
   rw [decide_eq_false hne] at HR
   refine ae Tryz.func61 Tryz.ntmps61 ?_
   repeat' (first|exact xf|refine aw0 ?_|(refine ap2 ?_ ?_<;>try intro h)|refine aw1 ?_|(refine abx ?_;intro bb)|(refine abz ?_;intro bz)|(refine ahv ?_;intro v' hv')|(refine aac ?_;intro ac cc)|refine aw2 ?_|(refine ap4 ?_ ?_<;>try intro h)|apply True.intro)
   all_goals (((with_reducible apply z00);exact res_1 rfl rfl);exact HR.out _ _ _ [] Takes.all ⟨rfl,rfl⟩)
theorem zc3 (r:Hp) (v:Value) (xs:List FileV) (fv:Value) (gf:FuncId) (cap:List Value) (H:List Ch) (q:FileV->Bool) (hv:Els r 2 encF v xs) (hfv:fv = .func (.func gf) #[] cap.toArray) (hg:GoesTo Tryz.prog gf)
 (hp : ∀ k (hk:k<xs.length),Tri Tryz.prog r gf (.agg (encF xs[k]).toArray::cap) H fun w H'=>w = .bool (q xs[k])/\H'=H) :
 Tri Tryz.prog r 132 [v,fv] H fun w H'=>w = .int .i64 (idx (xs.findIdx? q))/\H'=H:=by
 obtain ⟨a,c,rfl⟩:=hv.form
 have hn:=hv.2.2.1
 unfold maxLen at hn
 obtain ⟨n,hln⟩ : ∃ n,xs.length=n:=⟨_,rfl⟩
 rw [hln] at hn hv ⊢
 have HLN:=hid hln
 clear hln
 refine ae Tryz.func132 Tryz.ntmps132 ?_
 repeat' (first|refine ax0m ?_|(refine abb ?_;intro b)|refine ax1m ?_|(refine aac ?_;intro ac cc)|refine ax2m ?_|(refine ap3 ?_ ?_<;>try intro h)|apply True.intro)
 refine z04 (fun g t H' => ∃ k:Nat,g=n+1 - k/\k<=n/\(xs.take k).findIdx? q=none/\H'=H/\(t.length=19/\t[0]?=some (.slice a n c)/\t[1]?=some (fv)/\t[6]?=some (.slice a n c)/\t[7]?=some (.int .i64 n)/\t[8]?=some (.int .i64 k))) (n+1) ⟨0,rfl,Nat.zero_le _,by simp,rfl,rfl,rfl,rfl,rfl,rfl,rfl⟩ ?_
 rintro g t H' ⟨k,rfl,hk,hall,rfl,hlen,e0,e1,e6,e7,e8⟩
 revert e0 e1 e6 e7 e8;revert t;refine z0s (n:=19) ?_;intro u0 u1 u2 u3 u4 u5 u6 u7 u8 u9 u10 u11 u12 u13 u14 u15 u16 u17 u18 e0 e1 e6 e7 e8;cases e0;cases e1;cases e6;cases e7;cases e8
 have HA:=hid hall
 clear hall
 by_cases hlt:k<n
 · have hkx:k<xs.length:=by rw [HLN.out];exact hlt
   obtain ⟨b,off,rfl,hc⟩:=hv.at hkx HLN.out
   obtain ⟨x,hx⟩ : ∃ x,xs[k]=x:=⟨_,rfl⟩
   have hq:=hp k hkx
   rw [hx] at hq hc
   have hc':=hc r H' (fun _ _ h=>h)
   obtain ⟨y,hy⟩ : ∃ y,q x=y:=⟨_,rfl⟩
   rw [hy] at hq
   have HC:=hid hq
   have HX:=hid hx
   have HY:=hid hy
   clear hc hp hq hx hy
   subst hfv
   unfold encF at hc' HC
   cases y
   · repeat' (first|refine ax0m ?_|(refine abb ?_;intro b)|(with_reducible apply z2y (f:=gf) (cap:=cap));exact hg;rfl;rfl;exact HC.out;exact Takes.all;rintro v' H1 ⟨rfl,rfl⟩;rw [List.append_nil];(refine apk ?_)|refine ax1m ?_|(refine aac ?_;intro ac cc)|refine ax2m ?_|(refine ap3 ?_ ?_<;>try intro h)|apply True.intro)
     refine ⟨_,by omega,k+1,rfl,by omega,?_,rfl,rfl,rfl,rfl,rfl,rfl,rfl⟩
     rw [z6i hkx HA.out,HX.out,HY.out];rfl
   · repeat' (first|refine ax0m ?_|(refine abb ?_;intro b)|(with_reducible apply z2y (f:=gf) (cap:=cap));exact hg;rfl;rfl;exact HC.out;exact Takes.all;rintro v' H1 ⟨rfl,rfl⟩;rw [List.append_nil];(refine apk ?_)|refine ax1m ?_|(refine aac ?_;intro ac cc)|refine ax2m ?_|(refine ap3 ?_ ?_<;>try intro h)|apply True.intro)
     ((with_reducible apply z00);exact res_1 rfl rfl)
     exact ⟨by rw [z8s hkx HA.out (by rw [HX.out];exact HY.out)];rfl,rfl⟩
 · rw [List.take_of_length_le (by rw [HLN.out];omega)] at HA
   repeat' (first|refine ax0m ?_|(refine abb ?_;intro b)|refine ax1m ?_|(refine aac ?_;intro ac cc)|refine ax2m ?_|(refine ap3 ?_ ?_<;>try intro h)|apply True.intro)
   ((with_reducible apply z00);exact res_1 rfl rfl)
   exact ⟨by rw [HA.out];rfl,rfl⟩
theorem zdi (r:Hp) (v:Value) (xs:List FileV) (gf:FuncId) (cap:List Value) (H:List Ch) (q:FileV->Bool) (hv:Els r 2 encF v xs) (hg:GoesTo Tryz.prog gf)
 (hp : ∀ k (hk:k<xs.length),Tri Tryz.prog r gf (.agg (encF xs[k]).toArray::cap) H fun w H'=>w = .bool (q xs[k])/\H'=H) :
 Tri Tryz.prog r 68 [v,.func (.func gf) #[] cap.toArray] H fun w H'=>w = .bool (xs.any q)/\H'=H:=by
 have hi:=zc3 r v xs _ gf cap H q hv rfl hg hp
 obtain ⟨a,c,rfl⟩:=hv.form
 have e:xs.any q=(xs.findIdx? q).isSome:=by rw [List.findIdx?_isSome]
 rw [e]
 obtain ⟨o,ho⟩ : ∃ o,xs.findIdx? q=o:=⟨_,rfl⟩
 rw [ho] at hi ⊢
 have HC:=hid hi
 clear hp hv hi e ho
 cases o
 all_goals
  refine ae Tryz.func68 Tryz.ntmps68 ?_
  repeat' (first|refine ax0m ?_|(refine abb ?_;intro b)|(with_reducible apply z2y (f:=132) (cap:=[]));exact z2h Tryz.func132 (by kernel_rfl) rfl;rfl;rfl;exact HC.out;exact Takes.all;rintro v' H1 ⟨rfl,rfl⟩;all_goals (rw [List.append_nil];unfold idx;(refine apk ?_))|refine ax1m ?_|(refine aac ?_;intro ac cc)|refine ax2m ?_|(refine ap3 ?_ ?_<;>try intro h)|apply True.intro)
  ((with_reducible apply z00);exact res_1 rfl rfl)
  first
  | exact ⟨rfl,rfl⟩
  | exact ⟨by congr 1;simp,rfl⟩
theorem zdj (r:Hp) (v:Value) (xs:List DocV) (fv:Value) (gf:FuncId) (cap:List Value) (H:List Ch) (q:DocV->Bool) (hv:Els r 4 encD v xs) (hfv:fv = .func (.func gf) #[] cap.toArray) (hg:GoesTo Tryz.prog gf)
 (hp : ∀ k (hk:k<xs.length),Tri Tryz.prog r gf (.agg (encD xs[k]).toArray::cap) H fun w H'=>w = .bool (q xs[k])/\H'=H) :
 Tri Tryz.prog r 200 [v,fv] H fun w H'=>w = .int .i64 (idx (xs.findIdx? q))/\H'=H:=by
 obtain ⟨a,c,rfl⟩:=hv.form
 have hn:=hv.2.2.1
 unfold maxLen at hn
 obtain ⟨n,hln⟩ : ∃ n,xs.length=n:=⟨_,rfl⟩
 rw [hln] at hn hv ⊢
 have HLN:=hid hln
 clear hln
 refine ae Tryz.func200 Tryz.ntmps200 ?_
 repeat' (first|refine ax0m ?_|(refine abb ?_;intro b)|refine ax1m ?_|(refine aac ?_;intro ac cc)|refine ax2m ?_|(refine ap3 ?_ ?_<;>try intro h)|apply True.intro)
 refine z04 (fun g t H' => ∃ k:Nat,g=n+1 - k/\k<=n/\(xs.take k).findIdx? q=none/\H'=H/\(t.length=19/\t[0]?=some (.slice a n c)/\t[1]?=some (fv)/\t[6]?=some (.slice a n c)/\t[7]?=some (.int .i64 n)/\t[8]?=some (.int .i64 k))) (n+1) ⟨0,rfl,Nat.zero_le _,by simp,rfl,rfl,rfl,rfl,rfl,rfl,rfl⟩ ?_
 rintro g t H' ⟨k,rfl,hk,hall,rfl,hlen,e0,e1,e6,e7,e8⟩
 revert e0 e1 e6 e7 e8;revert t;refine z0s (n:=19) ?_;intro u0 u1 u2 u3 u4 u5 u6 u7 u8 u9 u10 u11 u12 u13 u14 u15 u16 u17 u18 e0 e1 e6 e7 e8;cases e0;cases e1;cases e6;cases e7;cases e8
 have HA:=hid hall
 clear hall
 by_cases hlt:k<n
 · have hkx:k<xs.length:=by rw [HLN.out];exact hlt
   obtain ⟨b,off,rfl,hc⟩:=hv.at hkx HLN.out
   obtain ⟨x,hx⟩ : ∃ x,xs[k]=x:=⟨_,rfl⟩
   have hq:=hp k hkx
   rw [hx] at hq hc
   have hc':=hc r H' (fun _ _ h=>h)
   obtain ⟨y,hy⟩ : ∃ y,q x=y:=⟨_,rfl⟩
   rw [hy] at hq
   have HC:=hid hq
   have HX:=hid hx
   have HY:=hid hy
   clear hc hp hq hx hy
   subst hfv
   unfold encD at hc' HC
   cases y
   · repeat' (first|refine ax0m ?_|(refine abb ?_;intro b)|(with_reducible apply z2y (f:=gf) (cap:=cap));exact hg;rfl;rfl;exact HC.out;exact Takes.all;rintro v' H1 ⟨rfl,rfl⟩;rw [List.append_nil];(refine apk ?_)|refine ax1m ?_|(refine aac ?_;intro ac cc)|refine ax2m ?_|(refine ap3 ?_ ?_<;>try intro h)|apply True.intro)
     refine ⟨_,by omega,k+1,rfl,by omega,?_,rfl,rfl,rfl,rfl,rfl,rfl,rfl⟩
     rw [z6i hkx HA.out,HX.out,HY.out];rfl
   · repeat' (first|refine ax0m ?_|(refine abb ?_;intro b)|(with_reducible apply z2y (f:=gf) (cap:=cap));exact hg;rfl;rfl;exact HC.out;exact Takes.all;rintro v' H1 ⟨rfl,rfl⟩;rw [List.append_nil];(refine apk ?_)|refine ax1m ?_|(refine aac ?_;intro ac cc)|refine ax2m ?_|(refine ap3 ?_ ?_<;>try intro h)|apply True.intro)
     ((with_reducible apply z00);exact res_1 rfl rfl)
     exact ⟨by rw [z8s hkx HA.out (by rw [HX.out];exact HY.out)];rfl,rfl⟩
 · rw [List.take_of_length_le (by rw [HLN.out];omega)] at HA
   repeat' (first|refine ax0m ?_|(refine abb ?_;intro b)|refine ax1m ?_|(refine aac ?_;intro ac cc)|refine ax2m ?_|(refine ap3 ?_ ?_<;>try intro h)|apply True.intro)
   ((with_reducible apply z00);exact res_1 rfl rfl)
   exact ⟨by rw [HA.out];rfl,rfl⟩
theorem zg8 (r:Hp) (v:Value) (xs:List DocV) (gf:FuncId) (cap:List Value) (H:List Ch) (q:DocV->Bool) (hv:Els r 4 encD v xs) (hg:GoesTo Tryz.prog gf)
 (hp : ∀ k (hk:k<xs.length),Tri Tryz.prog r gf (.agg (encD xs[k]).toArray::cap) H fun w H'=>w = .bool (q xs[k])/\H'=H) :
 Tri Tryz.prog r 145 [v,.func (.func gf) #[] cap.toArray] H fun w H'=>w = .bool (xs.any q)/\H'=H:=by
 have hi:=zdj r v xs _ gf cap H q hv rfl hg hp
 obtain ⟨a,c,rfl⟩:=hv.form
 have e:xs.any q=(xs.findIdx? q).isSome:=by rw [List.findIdx?_isSome]
 rw [e]
 obtain ⟨o,ho⟩ : ∃ o,xs.findIdx? q=o:=⟨_,rfl⟩
 rw [ho] at hi ⊢
 have HC:=hid hi
 clear hp hv hi e ho
 cases o
 all_goals
  refine ae Tryz.func145 Tryz.ntmps145 ?_
  repeat' (first|refine ax0m ?_|(refine abb ?_;intro b)|(with_reducible apply z2y (f:=200) (cap:=[]));exact z2h Tryz.func200 (by kernel_rfl) rfl;rfl;rfl;exact HC.out;exact Takes.all;rintro v' H1 ⟨rfl,rfl⟩;all_goals (rw [List.append_nil];unfold idx;(refine apk ?_))|refine ax1m ?_|(refine aac ?_;intro ac cc)|refine ax2m ?_|(refine ap3 ?_ ?_<;>try intro h)|apply True.intro)
  ((with_reducible apply z00);exact res_1 rfl rfl)
  first
  | exact ⟨rfl,rfl⟩
  | exact ⟨by congr 1;simp,rfl⟩
end Go.Proofs.YtohpeoakdgckfaaGreat
