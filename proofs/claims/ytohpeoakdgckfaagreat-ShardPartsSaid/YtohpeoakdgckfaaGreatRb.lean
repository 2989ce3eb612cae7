/- wire.Reader.Number: its contract. -/
import Derived.Test.YtohpeoakdgckfaaGreatIdx
import Derived.Test.YtohpeoakdgckfaaGreatProg
import Derived.Test.YtohpeoakdgckfaaGreatSx
import Derived.Test.YtohpeoakdgckfaaGreatWd
import Derived.Test.YtohpeoakdgckfaaGreatBits
set_option maxHeartbeats 2000000
set_option maxRecDepth 10000
namespace Go.Proofs.YtohpeoakdgckfaaGreat
open Go.RowKit Sx
attribute [local go_sem] Oper.semAt_some
abbrev rdr (v:Value) (bad:Bool):Obj:= .cells [v,.bool bad].toArray 328 (0,0)
theorem z1t (r:Hp) (g:Nat) (v:Value) (bad is:Bool) :
 Tri Tryz.prog r 214 [.pointer (some ⟨g,0,none⟩),.bool is] [pt g (rdr v bad)] fun _ H=>H=[pt g (rdr v (bad || !is))]:=by
 cases bad
 all_goals
  refine ae Tryz.func214 Tryz.ntmps214 ?_
  repeat' (first|refine ax0m ?_|(refine abb ?_;intro b)|refine ax1m ?_|(refine aac ?_;intro ac cc)|refine ax2m ?_|(refine ap3 ?_ ?_<;>try intro h)|apply True.intro)
  ((with_reducible apply z1k);exact res_0 rfl)
  simp
attribute [local go_sem] Oper.semAt_some
theorem U8S.cut {r:Hp} {b off cap n:Nat} {l:List UInt8} (h:U8S r (.slice (some ⟨b,off,none⟩) l.length cap) l) (hn:n<=l.length) {c:Array Value} {E:TypeId} {fz:Nat × Nat} (h1:l.length<=cap) (h2:r b=some (.cells c E fz)) (h3 : ∀ j (h:j<(u8s l).length),c[off+j]?=some (u8s l)[j]) :
 (∀ cap',n<=cap'->U8S r (.slice (some ⟨b,off,none⟩) n cap') (l.take n))/\(∀ cap',l.length - n<=cap'->U8S r (.slice (some ⟨b,off+n,none⟩) (l.length - n) cap') (l.drop n))/\l.length<=cap:=by
 have hm:=h.2.1
 refine ⟨fun cap' hc=>⟨by simp [u8s],?_,.inr ⟨b,off,cap',c,E,fz,by rw [List.length_take,Nat.min_eq_left hn],by rw [List.length_take,Nat.min_eq_left hn];exact hc,h2,fun j hj=>?_⟩⟩,fun cap' hc=>⟨by simp [u8s],?_,.inr ⟨b,off+n,cap',c,E,fz,by rw [List.length_drop],by rw [List.length_drop];exact hc,h2,fun j hj=>?_⟩⟩,h1⟩
 · rw [List.length_take];omega
 · have hj':j<(u8s l).length:=by simp [u8s] at hj ⊢;omega
   rw [h3 j hj']
   simp [u8s]
 · rw [List.length_drop];omega
 · have hj':n+j<(u8s l).length:=by simp [u8s] at hj ⊢;omega
   rw [Nat.add_assoc,h3 (n+j) hj']
   simp [u8s]
theorem z8q (r:Hp) (g:Nat) (v:Value) (bad:Bool) (left:List UInt8) (n:Nat) (hv:U8S r v left) (hn:n<=100000000000000) :
 Tri Tryz.prog r 211 [.pointer (some ⟨g,0,none⟩),.int .i64 n] [pt g (rdr v bad)] fun w H =>
  ((bad=true\/left.length<n)/\w = .slice none 0 0/\H=[pt g (rdr v true)])\/(bad=false/\n<=left.length/\U8S r w (left.take n) /\ ∃ v',U8S r v' (left.drop n)/\H=[pt g (rdr v' false)]):=by
 obtain ⟨a,c,rfl⟩:=hv.form
 have HV:=hid hv
 have hlm:=hv.2.1
 unfold maxLen at hlm
 clear hv
 by_cases h0:bad=true\/left.length<n
 · cases bad
   · have h1:left.length<n:=by simpa using h0
     clear h0
     refine ae Tryz.func211 Tryz.ntmps211 ?_
     repeat' (first|refine ax0m ?_|(refine abb ?_;intro b)|refine ax1m ?_|(refine aac ?_;intro ac cc)|refine ax2m ?_|(refine ap3 ?_ ?_<;>try intro h)|apply True.intro)
     ((with_reducible apply z00);exact res_1 rfl rfl)
     exact .inl ⟨.inr h1,rfl,rfl⟩
   · clear h0
     refine ae Tryz.func211 Tryz.ntmps211 ?_
     repeat' (first|refine ax0m ?_|(refine abb ?_;intro b)|refine ax1m ?_|(refine aac ?_;intro ac cc)|refine ax2m ?_|(refine ap3 ?_ ?_<;>try intro h)|apply True.intro)
     ((with_reducible apply z00);exact res_1 rfl rfl)
     exact .inl ⟨.inl (by simp),rfl,rfl⟩
 · obtain ⟨rfl,h1⟩:bad=false/\n<=left.length:=by simpa using h0
   clear h0
   rcases HV.out.2.2 with ⟨⟨a',e⟩,h2⟩ | ⟨b,off,cap,cc,E,fz,e,h2,h3,h4⟩
   · injection e with e1 e2 e3
     clear e1
     subst e3
     have hl:left=[]:=List.length_eq_zero_iff.1 e2
     subst hl
     obtain rfl:n=0:=by simpa using h1
     clear h1 h2 e2
     refine ae Tryz.func211 Tryz.ntmps211 ?_
     repeat' (first|refine ax0m ?_|(refine abb ?_;intro b)|refine ax1m ?_|(refine aac ?_;intro ac cc)|refine ax2m ?_|(refine ap3 ?_ ?_<;>try intro h)|apply True.intro)
     ((with_reducible apply z00);exact res_1 rfl rfl)
     exact .inr ⟨by simp,by simp,HV.out,_,HV.out,rfl⟩
   · injection e with e1 e2 e3
     subst e1
     subst e3
     clear e2
     obtain ⟨k1,k2,k3⟩:=U8S.cut HV.out h1 h2 h3 h4
     clear h3 h4
     have K:=hid (And.intro k1 k2)
     clear k1 k2
     have hd:decide (left.length<n)=false:=by simpa using h1
     by_cases hc:c=n
     · obtain rfl:n=left.length:=by omega
       subst hc
       refine ae Tryz.func211 Tryz.ntmps211 ?_
       repeat' (first|refine ax0m ?_|(refine abb ?_;intro b)|refine ax1m ?_|(refine aac ?_;intro ac cc)|refine ax2m ?_|(refine ap3 ?_ ?_<;>try intro h)|apply True.intro)
       ((with_reducible apply z00);exact res_1 rfl rfl)
       exact .inr ⟨by simp,Nat.le_refl _,K.out.1 _ (Nat.le_refl _),_,by
        have h5:=HV.out.2.2
        rcases h5 with ⟨⟨a',e⟩,h9⟩ | ⟨b',off',cap',cc',E',fz',e,h6,h7,h8⟩
        · rw [List.drop_length]
          have h10:left=[]:=List.length_eq_zero_iff.1 h9
          subst h10
          exact HV.out
        · injection e with e1 e2 e3
          obtain ⟨rfl,rfl⟩:b=b'/\off=off':=by injection e1 with e4;injection e4 with e5 e6;exact ⟨e5,e6⟩
          rw [List.drop_length]
          exact ⟨by simp [u8s],by simp [maxLen],.inr ⟨b,off,0,cc',E',fz',rfl,Nat.le_refl _,h7,fun j hj=>by simp [u8s] at hj⟩⟩,rfl⟩
     · refine ae Tryz.func211 Tryz.ntmps211 ?_
       repeat' (first|refine ax0m ?_|(refine abb ?_;intro b)|refine ax1m ?_|(refine aac ?_;intro ac cc)|refine ax2m ?_|(refine ap3 ?_ ?_<;>try intro h)|apply True.intro)
       ((with_reducible apply z00);exact res_1 rfl rfl)
       exact .inr ⟨by simp,h1,K.out.1 _ (by omega),_,K.out.2 _ (by omega),rfl⟩
theorem z8r (r:Hp) (v:Value) (l:List UInt8) (hv:U8S r v l) (hl:l.length<=1000000000):Tri Tryz.prog r 182 [v] [] fun w H => ∃ g v',w = .pointer (some ⟨g,0,none⟩)/\H=[pt g (rdr v' false),U8R v' l]:=by
 have HC:=hid (z2u r v l hv (by omega))
 obtain ⟨a,c,rfl⟩:=hv.form
 clear hv
 refine ae Tryz.func182 Tryz.ntmps182 ?_
 repeat' (first|refine ax0m ?_|(refine abb ?_;intro b)|(refine acl Tryz.func73 ?_;refine acr (HC.out) ?_;rintro v' H' ⟨a',c',rfl,rfl⟩;refine apl ?_)|refine ax1m ?_|(refine aac ?_;intro ac cc)|refine ax2m ?_|(refine ap3 ?_ ?_<;>try intro h)|apply True.intro)
 ((with_reducible apply z00);exact res_1 rfl rfl)
 exact ⟨_,_,rfl,rfl⟩
theorem z3q (r:Hp) (g:Nat) (v:Value) (bad:Bool):Tri Tryz.prog r 187 [.pointer (some ⟨g,0,none⟩)] [pt g (rdr v bad)] fun w H=>w = .bool (!bad)/\H=[pt g (rdr v bad)]:=by
 refine ae Tryz.func187 Tryz.ntmps187 ?_
 repeat' (first|refine ax0m ?_|(refine abb ?_;intro b)|refine ax1m ?_|(refine aac ?_;intro ac cc)|refine ax2m ?_|(refine ap3 ?_ ?_<;>try intro h)|apply True.intro)
 ((with_reducible apply z00);exact res_1 rfl rfl)
 exact ⟨rfl,rfl⟩
theorem z3v (r:Hp) (g:Nat) (v:Value) (bad:Bool) (l:List UInt8) (hv:U8S r v l):Tri Tryz.prog r 188 [.pointer (some ⟨g,0,none⟩)] [pt g (rdr v bad)] fun w H=>w = .int .i64 (if bad then 0 else l.length:Nat)/\H=[pt g (rdr v bad)]:=by
 obtain ⟨a,c,rfl⟩:=hv.form
 clear hv
 cases bad
 all_goals
  refine ae Tryz.func188 Tryz.ntmps188 ?_
  repeat' (first|refine ax0m ?_|(refine abb ?_;intro b)|refine ax1m ?_|(refine aac ?_;intro ac cc)|refine ax2m ?_|(refine ap3 ?_ ?_<;>try intro h)|apply True.intro)
  ((with_reducible apply z00);exact res_1 rfl rfl)
  exact ⟨by simp,rfl⟩
attribute [local go_sem] Oper.semAt_some
theorem zc2 (r:Hp) (g:Nat) (v:Value) (bad:Bool) (left:List UInt8) (n:Nat) (hv:U8S r v left) (hn:n<=100000000000000) (h:bad=true\/left.length<n) :
 Tri Tryz.prog r 211 [.pointer (some ⟨g,0,none⟩),.int .i64 n] [pt g (rdr v bad)] fun w H=>w = .slice none 0 0/\H=[pt g (rdr v true)]:=by
 refine (z8q r g v bad left n hv hn).mono ?_
 rintro w H (⟨_,rfl,rfl⟩ | ⟨rfl,h2,_⟩)
 · exact ⟨rfl,rfl⟩
 · rcases h with h|h
   · cases h
   · omega
theorem znf (r:Hp) (g:Nat) (v:Value) (left:List UInt8) (n:Nat) (hv:U8S r v left) (hn:n<=100000000000000) (h:n<=left.length) :
 Tri Tryz.prog r 211 [.pointer (some ⟨g,0,none⟩),.int .i64 n] [pt g (rdr v false)] fun w H=>U8S r w (left.take n) /\ ∃ v',U8S r v' (left.drop n)/\H=[pt g (rdr v' false)]:=by
 refine (z8q r g v false left n hv hn).mono ?_
 rintro w H (⟨h1,rfl,rfl⟩ | ⟨_,_,h3,h4⟩)
 · rcases h1 with h1|h1
   · cases h1
   · omega
 · exact ⟨h3,h4⟩
theorem z5j (r:Hp) (g:Nat) (v:Value) (b:UInt8) (left:List UInt8) (hv:U8S r v (b::left)) :
 Tri Tryz.prog r 211 [.pointer (some ⟨g,0,none⟩),.int .i64 1] [pt g (rdr v false)] fun w H => ∃ b2 off2 c2 v',w = .slice (some ⟨b2,off2,none⟩) 1 c2/\(∀ r' H,sub r r'->Rd1 r' H ⟨b2,off2,none⟩ (.int .u8 b.toNat))/\U8S r v' left/\H=[pt g (rdr v' false)]:=by
 refine (znf r g v (b::left) 1 hv (by omega) (by simp)).mono ?_
 rintro w H ⟨h1,v',h2,rfl⟩
 obtain ⟨a,c,rfl⟩:=Sl.form h1
 obtain ⟨b2,off2,u,rfl,hu,hc⟩:=Sl.at1 h1 (k:=0) (by simp)
 have:u = .int .u8 b.toNat:=by simpa [u8s] using hu.symm
 subst this
 refine ⟨b2,off2,c,v',rfl,fun r' H hr=>?_,by simpa using h2,rfl⟩
 intro w g e1 e2 e3
 exact hc [] w emp (fun k o h=>e1 k o (hr k o h)) (fun k o h=>by cases h) rfl
def getS:Nat->Nat->List UInt8->Option (Nat × List UInt8)
 | _,_,[]=>none
 | i,acc,b::l=>if i<6/\(i=0\/b.toNat≠0) then (if b.toNat<128 then some (acc+b.toNat*128 ^ i,l) else getS (i+1) (acc+(b.toNat - 128)*128 ^ i) l) else none
def getN (most:Int) (l:List UInt8):Option (Nat × List UInt8):=match getS 0 0 l with
 | some (n,x)=>if (n:Int)<=most/\n<=maxNum then some (n,x) else none
 | none=>none
theorem zg7 (r:Hp) (g:Nat) (v:Value) (left:List UInt8) (most:Int) (hv:U8S r v left) :
 Tri Tryz.prog r 185 [.pointer (some ⟨g,0,none⟩),.int .i64 most] [pt g (rdr v false)] fun w H =>
  (∃ n x v',getN most left=some (n,x)/\w = .int .i64 n/\U8S r v' x/\H=[pt g (rdr v' false)])\/(getN most left=none/\w = .int .i64 0 /\ ∃ v' x,U8S r v' x/\H=[pt g (rdr v' true)]):=by
 refine Tri.free fun R HR=>?_
 have HV:=hid hv
 clear hv
 refine ae Tryz.func185 Tryz.ntmps185 ?_
 repeat' (first|refine ax0m ?_|(refine abb ?_;intro b)|refine ax1m ?_|(refine aac ?_;intro ac cc)|refine ax2m ?_|(refine ap3 ?_ ?_<;>try intro h)|apply True.intro)
 refine z04 (fun gg t H' => ∃ (i acc:Nat) (l:List UInt8) (v':Value),gg=7 - i/\i<=6/\acc<128 ^ i/\getS 0 0 left=getS i acc l/\U8S r v' l/\Takes [pt g (rdr v' false)] H' [] /\
  (t.length=71/\t[0]?=some (.pointer (some ⟨g,0,none⟩))/\t[1]?=some (.int .i64 most)/\t[4]?=some (.int .i64 acc)/\t[5]?=some (.int .i64 (7*(i:Int))))) 7
  ⟨0,0,left,v,rfl,by omega,by omega,rfl,HV.out,atks,rfl,rfl,rfl,rfl,rfl⟩ ?_
 rintro gg t H' ⟨i,acc,l,v',rfl,hi,hacc,hg,hv,hp,hlen,e0,e1,e4,e5⟩
 revert e0 e1 e4 e5;revert t;refine z0s (n:=71) ?_;intro u0 u1 u2 u3 u4 u5 u6 u7 u8 u9 u10 u11 u12 u13 u14 u15 u16 u17 u18 u19 u20 u21 u22 u23 u24 u25 u26 u27 u28 u29 u30 u31 u32 u33 u34 u35 u36 u37 u38 u39 u40 u41 u42 u43 u44 u45 u46 u47 u48 u49 u50 u51 u52 u53 u54 u55 u56 u57 u58 u59 u60 u61 u62 u63 u64 u65 u66 u67 u68 u69 u70 e0 e1 e4 e5;cases e0;cases e1;cases e4;cases e5
 refine z6g hp ?_
 clear hp
 have HG:=hid hg
 have HA:=hid hacc
 have HV':=hid hv
 clear hg hacc hv
 have hz0:(7*((0:Nat):Int))=0:=rfl
 cases l with
 | nil =>
  have hnone:getN most left=none:=by unfold getN;rw [HG.out,getS]
  have HN:=hid hnone
  clear hnone
  by_cases hi0:i=0
  · subst hi0
    rw [hz0]
    clear hz0
    repeat' (first|refine ax0m ?_|(refine abb ?_;intro b)|(refine acl Tryz.func211 ?_;refine acr (zc2 r g v' false [] 1 HV'.out (by omega) (.inr (by simp))) ?_;rintro v' H' ⟨rfl,rfl⟩;refine apl ?_)|refine ax1m ?_|(refine aac ?_;intro ac cc)|refine ax2m ?_|(refine ap3 ?_ ?_<;>try intro h)|apply True.intro)
    ((with_reducible apply z02 (id:=6) 21 [(0,true),(1,true),(2,true),(3,true),(4,true),(5,true),(6,true),(7,true),(8,true),(9,true),(10,true),(11,true),(12,true),(13,true),(14,true),(15,true),(16,true),(17,true),(18,true),(19,true),(20,false)] [] []);kernel_rfl;(exact atks);kernel_rfl;intro r' hl')
    repeat' (first|refine ax0m ?_|(refine abb ?_;intro b)|(refine acl Tryz.func214 ?_;refine acr (z1t _ g v' true _) ?_;rintro v' H' rfl;all_goals refine apl ?_)|refine ax1m ?_|(refine aac ?_;intro ac cc)|refine ax2m ?_|(refine ap3 ?_ ?_<;>try intro h)|apply True.intro)
    ((with_reducible apply z00);exact res_1 rfl rfl)
    exact HR.out _ [] _ _ atks (.inr ⟨HN.out,rfl,_,_,HV'.out,rfl⟩)
  · have h7:((7*(i:Int)) == 0)=false:=by simp;omega
    clear hz0
    by_cases hi6:i=6
    · have h6:decide (7*(i:Int)<42)=false:=by simp;omega
      repeat' (first|refine ax0m ?_|(refine abb ?_;intro b)|(refine acl Tryz.func211 ?_;refine acr (zc2 r g v' false [] 1 HV'.out (by omega) (.inr (by simp))) ?_;rintro v' H' ⟨rfl,rfl⟩;refine apl ?_)|refine ax1m ?_|(refine aac ?_;intro ac cc)|refine ax2m ?_|(refine ap3 ?_ ?_<;>try intro h)|apply True.intro)
      ((with_reducible apply z02 (id:=6) 21 [(0,true),(1,true),(2,true),(3,true),(4,true),(5,true),(6,true),(7,true),(8,true),(9,true),(10,true),(11,true),(12,true),(13,true),(14,true),(15,true),(16,true),(17,true),(18,true),(19,true),(20,false)] [] []);kernel_rfl;(exact atks);kernel_rfl;intro r' hl')
      repeat' (first|refine ax0m ?_|(refine abb ?_;intro b)|(refine acl Tryz.func214 ?_;refine acr (z1t _ g v' true _) ?_;rintro v' H' rfl;all_goals refine apl ?_)|refine ax1m ?_|(refine aac ?_;intro ac cc)|refine ax2m ?_|(refine ap3 ?_ ?_<;>try intro h)|apply True.intro)
      ((with_reducible apply z00);exact res_1 rfl rfl)
      exact HR.out _ [] _ _ atks (.inr ⟨HN.out,rfl,_,_,HV'.out,rfl⟩)
    · have h6:decide (7*(i:Int)<42)=true:=by simp;omega
      repeat' (first|refine ax0m ?_|(refine abb ?_;intro b)|(refine acl Tryz.func211 ?_;refine acr (zc2 r g v' false [] 1 HV'.out (by omega) (.inr (by simp))) ?_;rintro v' H' ⟨rfl,rfl⟩;refine apl ?_)|refine ax1m ?_|(refine aac ?_;intro ac cc)|refine ax2m ?_|(refine ap3 ?_ ?_<;>try intro h)|apply True.intro)
      ((with_reducible apply z02 (id:=6) 21 [(0,true),(1,true),(2,true),(3,true),(4,true),(5,true),(6,true),(7,true),(8,true),(9,true),(10,true),(11,true),(12,true),(13,true),(14,true),(15,true),(16,true),(17,true),(18,true),(19,true),(20,false)] [] []);kernel_rfl;(exact atks);kernel_rfl;intro r' hl')
      repeat' (first|refine ax0m ?_|(refine abb ?_;intro b)|(refine acl Tryz.func214 ?_;refine acr (z1t _ g v' true _) ?_;rintro v' H' rfl;all_goals refine apl ?_)|refine ax1m ?_|(refine aac ?_;intro ac cc)|refine ax2m ?_|(refine ap3 ?_ ?_<;>try intro h)|apply True.intro)
      ((with_reducible apply z00);exact res_1 rfl rfl)
      exact HR.out _ [] _ _ atks (.inr ⟨HN.out,rfl,_,_,HV'.out,rfl⟩)
 | cons b l =>
  by_cases hi6:i=6
  · have h6:decide (7*(i:Int)<42)=false:=by simp;omega
    have hnone:getN most left=none:=by unfold getN;rw [HG.out,getS,if_neg (by omega)]
    have HN:=hid hnone
    clear hnone hz0
    repeat' (first|refine ax0m ?_|(refine abb ?_;intro b)|(refine acl Tryz.func211 ?_;refine acr (z5j r g v' b l HV'.out) ?_;rintro v' H' ⟨b2,off2,c2,v6,rfl,hb2,h6',rfl⟩;refine apl ?_)|refine ax1m ?_|(refine aac ?_;intro ac cc)|refine ax2m ?_|(refine ap3 ?_ ?_<;>try intro h)|apply True.intro)
    ((with_reducible apply z02 (id:=6) 21 [(0,true),(1,true),(2,true),(3,true),(4,true),(5,true),(6,true),(7,true),(8,true),(9,true),(10,true),(11,true),(12,true),(13,true),(14,true),(15,true),(16,true),(17,true),(18,true),(19,true),(20,false)] [] []);kernel_rfl;(exact atks);kernel_rfl;intro r' hl')
    repeat' (first|refine ax0m ?_|(refine abb ?_;intro b)|(refine acl Tryz.func214 ?_;refine acr (z1t _ g v6 false _) ?_;rintro v' H' rfl;all_goals refine apl ?_)|refine ax1m ?_|(refine aac ?_;intro ac cc)|refine ax2m ?_|(refine ap3 ?_ ?_<;>try intro h)|apply True.intro)
    ((with_reducible apply z00);exact res_1 rfl rfl)
    exact HR.out _ [] _ _ atks (.inr ⟨HN.out,rfl,_,_,h6',rfl⟩)
  · have h6:decide (7*(i:Int)<42)=true:=by simp;omega
    have hbl:=b.toNat_lt
    obtain ⟨x,hx⟩ : ∃ x,b.toNat % 128=x:=⟨_,rfl⟩
    have hx1:x<128:=by omega
    have e1:=zsd b.toNat hbl
    rw [hx] at e1
    have e2:=zqh x i hx1 (by omega)
    have e3:=zsg acc x i hx1 (by omega) HA.out
    have e4:=znh acc x i hx1 HA.out
    obtain ⟨y,hy⟩ : ∃ y,x*128 ^ i=y:=⟨_,rfl⟩
    rw [hy] at e2 e3 e4
    obtain ⟨z,hz⟩ : ∃ z,acc+y=z:=⟨_,rfl⟩
    rw [hz] at e3 e4
    have EE:=hid (And.intro e1 (And.intro e2 (And.intro e3 e4)))
    have hz':z=acc+b.toNat % 128*128 ^ i:=by rw [← hz,← hy,hx]
    have HZ:=hid hz'
    have hz9:z<=9223372036854775807:=by
     have:=zga (i:=i) (by omega)
     have h2:b.toNat % 128*128 ^ i<=128*34359738368:=Nat.mul_le_mul (by omega) this
     have h3:=HA.out
     omega
    have hyx:i=0->wrap64 ((x:Int))=x/\y=x:=fun h=>by subst h;exact ⟨IntWalk.wrap64_in _ (by omega),by rw [← hy];simp⟩
    have HYX:=hid hyx
    have hstep:(i=0\/b.toNat≠0)->getS 0 0 left=(if b.toNat<128 then some (z,l) else getS (i+1) z l):=fun h=>by
     rw [HG.out,getS,if_pos ⟨by omega,h⟩]
     by_cases hb:b.toNat<128
     · rw [if_pos hb,if_pos hb,hz',show b.toNat % 128=b.toNat by omega]
     · rw [if_neg hb,if_neg hb,hz',show b.toNat % 128=b.toNat - 128 by omega]
    have HST:=hid hstep
    clear e1 e2 e3 e4 hx hy hz hz' hyx hstep
    by_cases hbad:i≠0/\b.toNat=0
    · have hnone:getN most left=none:=by unfold getN;rw [HG.out,getS,if_neg (by omega)]
      have HN:=hid hnone
      have h7:((7*(i:Int)) == 0)=false:=by simp;omega
      have hb1:decide (0<b.toNat)=false:=by simp;omega
      clear hnone hz0
      repeat' (first|refine ax0m ?_|(refine abb ?_;intro b)|(refine acl Tryz.func211 ?_;refine acr (z5j r g v' b l HV'.out) ?_;rintro v' H' ⟨b2,off2,c2,v6,rfl,hb2,h6',rfl⟩;refine apl ?_)|refine ax1m ?_|(refine aac ?_;intro ac cc)|refine ax2m ?_|(refine ap3 ?_ ?_<;>try intro h)|apply True.intro)
      have HB2:=hid hb2
      have H6:=hid h6'
      have hb3:=hb2 r [pt g (rdr v6 false)] (fun _ _ h=>h)
      clear hb2 h6'
      ((with_reducible apply z02 (id:=6) 21 [(0,true),(1,true),(2,true),(3,true),(4,true),(5,true),(6,true),(7,true),(8,true),(9,true),(10,true),(11,true),(12,true),(13,true),(14,true),(15,true),(16,true),(17,true),(18,true),(19,true),(20,false)] [] []);kernel_rfl;(exact atks);kernel_rfl;intro r' hl')
      have hb4:=HB2.out r' [] hl'.1
      repeat' (first|refine ax0m ?_|(refine abb ?_;intro b)|(refine acl Tryz.func214 ?_;refine acr (z1t _ g v6 false _) ?_;rintro v' H' rfl;all_goals refine apl ?_)|refine ax1m ?_|(refine aac ?_;intro ac cc)|refine ax2m ?_|(refine ap3 ?_ ?_<;>try intro h)|apply True.intro)
      ((with_reducible apply z00);exact res_1 rfl rfl)
      exact HR.out _ [] _ _ atks (.inr ⟨HN.out,rfl,_,_,H6.out,rfl⟩)
    · by_cases hb:b.toNat<128
      · have hgs:=HST.out (by omega)
        rw [if_pos hb] at hgs
        have HGS:=hid hgs
        clear hgs
        obtain ⟨q1,hq1⟩ : ∃ q,decide ((z:Int)<=most)=q:=⟨_,rfl⟩
        obtain ⟨q2,hq2⟩ : ∃ q,decide ((z:Int)<=1099511627776)=q:=⟨_,rfl⟩
        have hN:getN most left=if q1 && q2 then some (z,l) else none:=by
         unfold getN;rw [HGS.out,← hq1,← hq2]
         have h3:((z:Int)<=1099511627776)↔z<=1099511627776:=by omega
         by_cases h1:(z:Int)<=most<;>by_cases h2:z<=1099511627776<;>simp [maxNum,h1,h2,h3]
        cases q1<;>cases q2
        all_goals
         have HN:=hid hN
         clear hN
         simp only [Bool.and_true,Bool.and_false,if_true,if_false,Bool.false_eq_true] at HN
         by_cases hi0:i=0
         · subst hi0
           rw [hz0]
           clear hz0
           repeat' (first|refine ax0m ?_|(refine abb ?_;intro b)|(refine acl Tryz.func211 ?_;refine acr (z5j r g v' b l HV'.out) ?_;rintro v' H' ⟨b2,off2,c2,v6,rfl,hb2,h6',rfl⟩;refine apl ?_)|refine ax1m ?_|(refine aac ?_;intro ac cc)|refine ax2m ?_|(refine ap3 ?_ ?_<;>try intro h)|apply True.intro)
           have HB2:=hid hb2
           have H6:=hid h6'
           have hb3:=hb2 r [pt g (rdr v6 false)] (fun _ _ h=>h)
           clear hb2 h6'
           ((with_reducible apply z02 (id:=6) 21 [(0,true),(1,true),(2,true),(3,true),(4,true),(5,true),(6,true),(7,true),(8,true),(9,true),(10,true),(11,true),(12,true),(13,true),(14,true),(15,true),(16,true),(17,true),(18,true),(19,true),(20,false)] [] []);kernel_rfl;(exact atks);kernel_rfl;intro r' hl')
           have hb4:=HB2.out r' [] hl'.1
           have hb5:=HB2.out r' [pt g (rdr v6 false)] hl'.1
           have e1:=EE.out.1
           have e2:=EE.out.2.1
           have e3:=EE.out.2.2.1
           rw [(HYX.out rfl).2] at e3
           repeat' (first|refine ax0m ?_|(refine abb ?_;intro b)|(refine acl Tryz.func214 ?_;refine acr (z1t _ g v6 false _) ?_;rintro v' H' rfl;all_goals refine apl ?_)|(refine acl Tryz.func214 ?_;refine acr (z1t _ g v6 (or false (not true)) _) ?_;rintro v' H' rfl;all_goals refine apl ?_)|refine ax1m ?_|(refine aac ?_;intro ac cc)|refine ax2m ?_|(refine ap3 ?_ ?_<;>try intro h)|apply True.intro)
           ((with_reducible apply z00);exact res_1 rfl rfl)
           first
           | exact HR.out _ [] _ _ atks (.inl ⟨z,l,_,HN.out,rfl,H6.out,rfl⟩)
           | exact HR.out _ [] _ _ atks (.inr ⟨HN.out,rfl,_,_,H6.out,rfl⟩)
         · have h7:((7*(i:Int)) == 0)=false:=by simp;omega
           have hb1:decide (0<b.toNat)=true:=by simp;omega
           repeat' (first|refine ax0m ?_|(refine abb ?_;intro b)|(refine acl Tryz.func211 ?_;refine acr (z5j r g v' b l HV'.out) ?_;rintro v' H' ⟨b2,off2,c2,v6,rfl,hb2,h6',rfl⟩;refine apl ?_)|refine ax1m ?_|(refine aac ?_;intro ac cc)|refine ax2m ?_|(refine ap3 ?_ ?_<;>try intro h)|apply True.intro)
           have HB2:=hid hb2
           have H6:=hid h6'
           have hb3:=hb2 r [pt g (rdr v6 false)] (fun _ _ h=>h)
           clear hb2 h6'
           ((with_reducible apply z02 (id:=6) 21 [(0,true),(1,true),(2,true),(3,true),(4,true),(5,true),(6,true),(7,true),(8,true),(9,true),(10,true),(11,true),(12,true),(13,true),(14,true),(15,true),(16,true),(17,true),(18,true),(19,true),(20,false)] [] []);kernel_rfl;(exact atks);kernel_rfl;intro r' hl')
           have hb4:=HB2.out r' [] hl'.1
           have hb5:=HB2.out r' [pt g (rdr v6 false)] hl'.1
           have e1:=EE.out.1
           have e2:=EE.out.2.1
           have e3:=EE.out.2.2.1
           repeat' (first|refine ax0m ?_|(refine abb ?_;intro b)|(refine acl Tryz.func214 ?_;refine acr (z1t _ g v6 false _) ?_;rintro v' H' rfl;all_goals refine apl ?_)|(refine acl Tryz.func214 ?_;refine acr (z1t _ g v6 (or false (not true)) _) ?_;rintro v' H' rfl;all_goals refine apl ?_)|refine ax1m ?_|(refine aac ?_;intro ac cc)|refine ax2m ?_|(refine ap3 ?_ ?_<;>try intro h)|apply True.intro)
           ((with_reducible apply z00);exact res_1 rfl rfl)
           first
           | exact HR.out _ [] _ _ atks (.inl ⟨z,l,_,HN.out,rfl,H6.out,rfl⟩)
           | exact HR.out _ [] _ _ atks (.inr ⟨HN.out,rfl,_,_,H6.out,rfl⟩)
      · by_cases hi0:i=0
        · subst hi0
          rw [hz0]
          clear hz0
          repeat' (first|refine ax0m ?_|(refine abb ?_;intro b)|(refine acl Tryz.func211 ?_;refine acr (z5j r g v' b l HV'.out) ?_;rintro v' H' ⟨b2,off2,c2,v6,rfl,hb2,h6',rfl⟩;refine apl ?_)|refine ax1m ?_|(refine aac ?_;intro ac cc)|refine ax2m ?_|(refine ap3 ?_ ?_<;>try intro h)|apply True.intro)
          have HB2:=hid hb2
          have H6:=hid h6'
          have hb3:=hb2 r [pt g (rdr v6 false)] (fun _ _ h=>h)
          clear hb2 h6'
          ((with_reducible apply z02 (id:=6) 21 [(0,true),(1,true),(2,true),(3,true),(4,true),(5,true),(6,true),(7,true),(8,true),(9,true),(10,true),(11,true),(12,true),(13,true),(14,true),(15,true),(16,true),(17,true),(18,true),(19,true),(20,false)] [] []);kernel_rfl;(exact atks);kernel_rfl;intro r' hl')
          have hb4:=HB2.out r' [] hl'.1
          have hb5:=HB2.out r' [pt g (rdr v6 false)] hl'.1
          have e1:=EE.out.1
          have e2:=EE.out.2.1
          have e3:=EE.out.2.2.1
          rw [(HYX.out rfl).2] at e3
          repeat' (first|refine ax0m ?_|(refine abb ?_;intro b)|(refine acl Tryz.func214 ?_;refine acr (z1t _ g v6 false _) ?_;rintro v' H' rfl;all_goals refine apl ?_)|refine ax1m ?_|(refine aac ?_;intro ac cc)|refine ax2m ?_|(refine ap3 ?_ ?_<;>try intro h)|apply True.intro)
          exact ⟨_,by omega,1,z,l,v6,rfl,by omega,EE.out.2.2.2,by rw [HST.out (.inl rfl),if_neg hb],H6.out,atks,rfl,rfl,rfl,rfl,rfl⟩
        · have h7:((7*(i:Int)) == 0)=false:=by simp;omega
          have hb1:decide (0<b.toNat)=true:=by simp;omega
          repeat' (first|refine ax0m ?_|(refine abb ?_;intro b)|(refine acl Tryz.func211 ?_;refine acr (z5j r g v' b l HV'.out) ?_;rintro v' H' ⟨b2,off2,c2,v6,rfl,hb2,h6',rfl⟩;refine apl ?_)|refine ax1m ?_|(refine aac ?_;intro ac cc)|refine ax2m ?_|(refine ap3 ?_ ?_<;>try intro h)|apply True.intro)
          have HB2:=hid hb2
          have H6:=hid h6'
          have hb3:=hb2 r [pt g (rdr v6 false)] (fun _ _ h=>h)
          clear hb2 h6'
          ((with_reducible apply z02 (id:=6) 21 [(0,true),(1,true),(2,true),(3,true),(4,true),(5,true),(6,true),(7,true),(8,true),(9,true),(10,true),(11,true),(12,true),(13,true),(14,true),(15,true),(16,true),(17,true),(18,true),(19,true),(20,false)] [] []);kernel_rfl;(exact atks);kernel_rfl;intro r' hl')
          have hb4:=HB2.out r' [] hl'.1
          have hb5:=HB2.out r' [pt g (rdr v6 false)] hl'.1
          have e1:=EE.out.1
          have e2:=EE.out.2.1
          have e3:=EE.out.2.2.1
          repeat' (first|refine ax0m ?_|(refine abb ?_;intro b)|(refine acl Tryz.func214 ?_;refine acr (z1t _ g v6 false _) ?_;rintro v' H' rfl;all_goals refine apl ?_)|refine ax1m ?_|(refine aac ?_;intro ac cc)|refine ax2m ?_|(refine ap3 ?_ ?_<;>try intro h)|apply True.intro)
          exact ⟨_,by omega,i+1,z,l,v6,rfl,by omega,EE.out.2.2.2,by rw [HST.out (by omega),if_neg hb],H6.out,atks,rfl,rfl,rfl,rfl,rfl⟩
end Go.Proofs.YtohpeoakdgckfaaGreat
