/- doc.Get: its contract. -/
import Derived.Test.YtohpeoakdgckfaaGreatRb
import Derived.Test.YtohpeoakdgckfaaGreatBits
import Derived.Test.YtohpeoakdgckfaaGreatDb
set_option maxHeartbeats 2000000
set_option maxRecDepth 10000
namespace Go.Proofs.YtohpeoakdgckfaaGreat
open Go.RowKit Sx
attribute [local go_sem] Oper.semAt_some
theorem zgf (r:Hp) (g:Nat) (v:Value) (left:List UInt8) (most:Int) (hv:U8S r v left) :
 Tri Tryz.prog r 185 [.pointer (some ⟨g,0,none⟩),.int .i64 most] [pt g (rdr v true)] fun w H=>w = .int .i64 0/\H=[pt g (rdr v true)]:=by
 refine Tri.free fun R HR=>?_
 have HV:=hid hv
 clear hv
 refine ae Tryz.func185 Tryz.ntmps185 ?_
 repeat' (first|refine ax0m ?_|(refine abb ?_;intro b)|refine ax1m ?_|(refine aac ?_;intro ac cc)|refine ax2m ?_|(refine ap3 ?_ ?_<;>try intro h)|apply True.intro)
 refine z04 (fun gg t H'=>gg=1/\(∃ G,Takes [pt g (rdr v true)] H' G)/\(t.length=71/\t[0]?=some (.pointer (some ⟨g,0,none⟩))/\t[1]?=some (.int .i64 most)/\t[4]?=some (.int .i64 0)/\t[5]?=some (.int .i64 0))) 1
  ⟨rfl,⟨[],by (exact atks)⟩,rfl,rfl,rfl,rfl,rfl⟩ ?_
 rintro gg t H' ⟨rfl,⟨G,hp⟩,hlen,e0,e1,e4,e5⟩
 revert e0 e1 e4 e5;revert t;refine z0s (n:=71) ?_;intro u0 u1 u2 u3 u4 u5 u6 u7 u8 u9 u10 u11 u12 u13 u14 u15 u16 u17 u18 u19 u20 u21 u22 u23 u24 u25 u26 u27 u28 u29 u30 u31 u32 u33 u34 u35 u36 u37 u38 u39 u40 u41 u42 u43 u44 u45 u46 u47 u48 u49 u50 u51 u52 u53 u54 u55 u56 u57 u58 u59 u60 u61 u62 u63 u64 u65 u66 u67 u68 u69 u70 e0 e1 e4 e5;cases e0;cases e1;cases e4;cases e5
 refine z01 hp ?_
 clear hp
 repeat' (first|refine ax0m ?_|(refine abb ?_;intro b)|(refine acl Tryz.func211 ?_;refine acr (zc2 r g v true left 1 HV.out (by omega) (.inl rfl)) ?_;rintro v' H' ⟨rfl,rfl⟩;refine apl ?_)|refine ax1m ?_|(refine aac ?_;intro ac cc)|refine ax2m ?_|(refine ap3 ?_ ?_<;>try intro h)|apply True.intro)
 ((with_reducible apply z02 (id:=6) 21 [(0,true),(1,true),(2,true),(3,true),(4,true),(5,true),(6,true),(7,true),(8,true),(9,true),(10,true),(11,true),(12,true),(13,true),(14,true),(15,true),(16,true),(17,true),(18,true),(19,true),(20,false)] [] []);kernel_rfl;(exact atks);kernel_rfl;intro r' hl')
 repeat' (first|refine ax0m ?_|(refine abb ?_;intro b)|(refine acl Tryz.func214 ?_;refine acr (z1t _ g v true _) ?_;rintro v' H' rfl;all_goals refine apl ?_)|refine ax1m ?_|(refine aac ?_;intro ac cc)|refine ax2m ?_|(refine ap3 ?_ ?_<;>try intro h)|apply True.intro)
 ((with_reducible apply z00);exact res_1 rfl rfl)
 exact HR.out _ [] _ _ atks ⟨rfl,rfl⟩
theorem zdy (q x i:Nat) (hq:q<2 ^ i) (hx:x*2 ^ i+q<4294967296):bits .or .u32 (q:Int) ((x:Int)*((2 ^ i:Nat):Int))=((q+x*2 ^ i:Nat):Int):=by
 rw [← Int.natCast_mul,(zdk q (x*2 ^ i) (by omega) (by omega)).2,Nat.or_comm,Nat.mul_comm,z98 x q i hq,Nat.add_comm]
def RdOk (r:Hp) (v:Value) (bad:Bool) (st:Option (List UInt8)):Prop:=(bad=false /\ ∃ l,st=some l/\U8S r v l)\/(bad=true/\st=none /\ ∃ x,U8S r v x)
theorem RdOk.mono {r r':Hp} {v:Value} {bad:Bool} {st:Option (List UInt8)} (h:RdOk r v bad st) (hr:sub r r'):RdOk r' v bad st:=by
 rcases h with ⟨a,l,b,c⟩ | ⟨a,b,l,c⟩
 · exact .inl ⟨a,l,b,c.mono hr⟩
 · exact .inr ⟨a,b,l,c.mono hr⟩
def numR (most:Int):Option (List UInt8)->Nat × Option (List UInt8)
 | none=>(0,none)
 | some l=>match getN most l with|some (n,x)=>(n,some x)|none=>(0,none)
def takeR (n:Nat):Option (List UInt8)->List UInt8 × Option (List UInt8)
 | none=>([],none)
 | some l=>if l.length<n then ([],none) else (l.take n,some (l.drop n))
def textR (most:Int) (st:Option (List UInt8)):List UInt8 × Option (List UInt8):=takeR (numR most st).1 (numR most st).2
def fixR:Option (List UInt8)->Nat × Option (List UInt8)
 | some (a::b::c::d::l)=>(ofBytes a.toNat b.toNat c.toNat d.toNat,some l)
 | _=>(0,none)
theorem zqo {most:Int} {l x:List UInt8} {n:Nat} (h:getN most l=some (n,x)):n<=maxNum:=by
 unfold getN at h
 cases e:getS 0 0 l with
 | none=>rw [e] at h;cases h
 | some p =>
  obtain ⟨m,y⟩:=p
  rw [e] at h
  simp only at h
  split at h
  · rename_i c;simp only [Option.some.injEq,Prod.mk.injEq] at h;rw [← h.1];exact c.2
  · cases h
theorem zl7 (most:Int) (st:Option (List UInt8)):(numR most st).1<=maxNum:=by
 cases st with
 | none=>simp [numR]
 | some l =>
  cases e:getN most l with
  | none=>simp [numR,e]
  | some p=>obtain ⟨n,x⟩:=p;simp only [numR,e];exact zqo e
theorem z4g (r:Hp) (g:Nat) (v:Value) (bad:Bool) (st:Option (List UInt8)) (most:Int) (hv:RdOk r v bad st) :
 Tri Tryz.prog r 185 [.pointer (some ⟨g,0,none⟩),.int .i64 most] [pt g (rdr v bad)] fun w H=>w = .int .i64 (numR most st).1 /\ ∃ v' bad',RdOk r v' bad' (numR most st).2/\H=[pt g (rdr v' bad')]:=by
 rcases hv with ⟨rfl,l,rfl,hv⟩ | ⟨rfl,rfl,x,hv⟩
 · refine (zg7 r g v l most hv).mono ?_
   rintro w H (⟨n,x,v',h1,rfl,h2,rfl⟩ | ⟨h1,rfl,v',x,h2,rfl⟩)
   · have e:numR most (some l)=(n,some x):=by simp [numR,h1]
     rw [e];exact ⟨rfl,v',false,.inl ⟨rfl,x,rfl,h2⟩,rfl⟩
   · have e:numR most (some l)=(0,none):=by simp [numR,h1]
     rw [e];exact ⟨rfl,v',true,.inr ⟨rfl,rfl,x,h2⟩,rfl⟩
 · refine (zgf r g v x most hv).mono ?_
   rintro w H ⟨rfl,rfl⟩
   exact ⟨rfl,v,true,.inr ⟨rfl,rfl,x,hv⟩,rfl⟩
theorem zdz (r:Hp) (g:Nat) (v:Value) (bad:Bool) (st:Option (List UInt8)) (n:Nat) (hv:RdOk r v bad st) (hn:n<=100000000000000) :
 Tri Tryz.prog r 211 [.pointer (some ⟨g,0,none⟩),.int .i64 n] [pt g (rdr v bad)] fun w H =>
  ((∀ l,st=some l->l.length<n)/\w = .slice none 0 0 /\ ∃ v',RdOk r v' true none/\H=[pt g (rdr v' true)])\/(∃ l,st=some l/\n<=l.length/\U8S r w (l.take n) /\ ∃ v',RdOk r v' false (some (l.drop n))/\H=[pt g (rdr v' false)]):=by
 rcases hv with ⟨rfl,l,rfl,hv⟩ | ⟨rfl,rfl,x,hv⟩
 · refine (z8q r g v false l n hv hn).mono ?_
   rintro w H (⟨h1,rfl,rfl⟩ | ⟨_,h2,h3,v',h4,rfl⟩)
   · refine .inl ⟨?_,rfl,v,.inr ⟨rfl,rfl,l,hv⟩,rfl⟩
     rintro l' h;cases h;rcases h1 with h1|h1
     · cases h1
     · exact h1
   · exact .inr ⟨l,rfl,h2,h3,v',.inl ⟨rfl,_,rfl,h4⟩,rfl⟩
 · refine (z8q r g v true x n hv hn).mono ?_
   rintro w H (⟨h1,rfl,rfl⟩ | ⟨h1,_⟩)
   · exact .inl ⟨fun l h=>(by cases h),rfl,v,.inr ⟨rfl,rfl,x,hv⟩,rfl⟩
   · cases h1
theorem zci (r:Hp) (g:Nat) (v:Value) (bad:Bool) (st:Option (List UInt8)) (most:Int) (hv:RdOk r v bad st) :
 Tri Tryz.prog r 191 [.pointer (some ⟨g,0,none⟩),.int .i64 most] [pt g (rdr v bad)] fun w H => ∃ a c v' bad',w = .slice a (textR most st).1.length c/\RdOk r v' bad' (textR most st).2/\H=[U8R w (textR most st).1,pt g (rdr v' bad')]:=by
 refine Tri.free fun R HR=>?_
 have HV:=hid hv
 have hnum:=z4g r g v bad st most hv
 have hnm:=zl7 most st
 unfold maxNum at hnm
 unfold textR at HR
 generalize numR most st=p at hnum hnm HR
 obtain ⟨n,s⟩:=p
 have HNUM:=hid hnum
 clear hv hnum
 dsimp only at HNUM hnm HR
 refine ae Tryz.func191 Tryz.ntmps191 ?_
 repeat' (first|refine ax0m ?_|(refine abb ?_;intro b)|(refine acl Tryz.func185 ?_;refine acr (HNUM.out) ?_;rintro v' H' ⟨rfl,v1,bad1,hv1,rfl⟩;refine apl ?_)|(refine acl Tryz.func211 ?_;refine acr (zdz r g v1 bad1 s n hv1 (by omega)) ?_;rintro v' H' (⟨hno,rfl,v2,hv2,rfl⟩ | ⟨l,rfl,hle,hw,v2,hv2,rfl⟩);all_goals refine apl ?_)|(refine acl Tryz.func73 ?_;refine acr (z2u _ _ _ hw (by simp;omega)) ?_;rintro v' H' ⟨a3,c3,rfl,rfl⟩;refine apl ?_)|(refine acl Tryz.func73 ?_;refine acr (z2u _ _ [] (Sl.nil _ 1) (by simp)) ?_;rintro v' H' ⟨a3,c3,rfl,rfl⟩;refine apl ?_)|refine ax1m ?_|(refine aac ?_;intro ac cc)|refine ax2m ?_|(refine ap3 ?_ ?_<;>try intro h)|apply True.intro)
 · ((with_reducible apply z00);exact res_1 rfl rfl)
   have e:takeR n s=([],none):=by cases s with|none=>rfl|some l=>simp [takeR,hno l rfl]
   rw [e] at HR
   exact HR.out _ [] _ _ atks ⟨a3,c3,v2,true,rfl,hv2,rfl⟩
 · ((with_reducible apply z00);exact res_1 rfl rfl)
   have e:takeR n (some l)=(l.take n,some (l.drop n)):=by simp [takeR,Nat.not_lt.2 hle]
   rw [e] at HR
   exact HR.out _ [] _ _ atks ⟨a3,c3,v2,false,rfl,hv2,rfl⟩
theorem ze0 (r:Hp) (g:Nat) (v:Value) (bad:Bool) (st:Option (List UInt8)) (hv:RdOk r v bad st) :
 Tri Tryz.prog r 183 [.pointer (some ⟨g,0,none⟩)] [pt g (rdr v bad)] fun w H=>w = .int .u32 (fixR st).1 /\ ∃ v' bad',RdOk r v' bad' (fixR st).2/\H=[pt g (rdr v' bad')]:=by
 refine Tri.free fun R HR=>?_
 have HV:=hid hv
 refine ae Tryz.func183 Tryz.ntmps183 ?_
 repeat' (first|refine ax0m ?_|(refine abb ?_;intro b)|(refine acl Tryz.func211 ?_;refine acr (zdz r g v bad st 4 HV.out (by omega)) ?_;rintro v' H' (⟨hno,rfl,v2,hv2,rfl⟩ | ⟨l,rfl,hle,hw,v2,hv2,rfl⟩);all_goals refine apl ?_)|refine ax1m ?_|(refine aac ?_;intro ac cc)|refine ax2m ?_|(refine ap3 ?_ ?_<;>try intro h)|apply True.intro)
 · have e:fixR st=(0,none):=by
    match st,hno with
    | none,_=>rfl
    | some [],_=>rfl
    | some [_],_=>rfl
    | some [_,_],_=>rfl
    | some [_,_,_],_=>rfl
    | some (_::_::_::_::x),hno=>have:=hno _ rfl;simp at this;omega
   rw [e] at HR
   refine z04 (fun gg t H'=>gg=1/\(∃ G,Takes [pt g (rdr v2 true)] H' G)/\(t.length=26/\t[2]?=some (.int .u32 0)/\t[11]?=some (.int .i64 0)/\t[12]?=some (.int .i64 0))) 1
    ⟨rfl,⟨[],by (exact atks)⟩,rfl,rfl,rfl,rfl⟩ ?_
   rintro gg t H' ⟨rfl,⟨G,hp⟩,hlen,e2,e11,e12⟩
   revert e2 e11 e12;revert t;refine z0s (n:=26) ?_;intro u0 u1 u2 u3 u4 u5 u6 u7 u8 u9 u10 u11 u12 u13 u14 u15 u16 u17 u18 u19 u20 u21 u22 u23 u24 u25 e2 e11 e12;cases e2;cases e11;cases e12
   refine z01 hp ?_
   clear hp
   repeat' (first|refine ax0m ?_|(refine abb ?_;intro b)|refine ax1m ?_|(refine aac ?_;intro ac cc)|refine ax2m ?_|(refine ap3 ?_ ?_<;>try intro h)|apply True.intro)
   ((with_reducible apply z00);exact res_1 rfl rfl)
   exact HR.out _ [] _ _ atks ⟨rfl,v2,true,hv2,rfl⟩
 · obtain ⟨b0,b1,b2,b3,x,rfl⟩ : ∃ b0 b1 b2 b3 x,l=b0::b1::b2::b3::x:=by
    match l,hle with
    | a::b::c::d::x,_=>exact ⟨a,b,c,d,x,rfl⟩
   obtain ⟨a4,c4,rfl⟩:=hw.form
   simp only [List.take,List.drop,List.length_cons,List.length_nil,Nat.reduceAdd] at hw hv2 ⊢
   have hr : ∀ j (h:j<4),∃ b off u,a4=some ⟨b,off,none⟩/\(u8s [b0,b1,b2,b3])[j]?=some u /\ ∀ H,Rd1 r H ⟨b,off+j,none⟩ u:=fun j h=>hw.at1 h
   obtain ⟨b,off,_,rfl,_,_⟩:=hr 0 (by omega)
   have hr : ∀ j (h:j<4),∃ u,(u8s [b0,b1,b2,b3])[j]?=some u /\ ∀ H,Rd1 r H ⟨b,off+j,none⟩ u:=fun j h=>by
    obtain ⟨_,_,u,e,h1,h2⟩:=hr j h;cases e;exact ⟨u,h1,h2⟩
   obtain ⟨n0,h0⟩ : ∃ n0,b0.toNat=n0:=⟨_,rfl⟩
   obtain ⟨n1,h1⟩ : ∃ n1,b1.toNat=n1:=⟨_,rfl⟩
   obtain ⟨n2,h2⟩ : ∃ n2,b2.toNat=n2:=⟨_,rfl⟩
   obtain ⟨n3,h3⟩ : ∃ n3,b3.toNat=n3:=⟨_,rfl⟩
   have hc0:=hr 0 (by omega)
   have hc1:=hr 1 (by omega)
   have hc2:=hr 2 (by omega)
   have hc3:=hr 3 (by omega)
   simp only [u8s,List.map_cons,List.map_nil,List.getElem?_cons_zero,List.getElem?_cons_succ,Option.some.injEq,exists_eq_left',h0,h1,h2,h3] at hc0 hc1 hc2 hc3
   have l0:n0<256:=by rw [← h0];exact b0.toNat_lt
   have l1:n1<256:=by rw [← h1];exact b1.toNat_lt
   have l2:n2<256:=by rw [← h2];exact b2.toNat_lt
   have l3:n3<256:=by rw [← h3];exact b3.toNat_lt
   have hf:fixR (some (b0::b1::b2::b3::x))=(n0+256*(n1+256*(n2+256*n3)),some x):=by simp only [fixR,ofBytes,h0,h1,h2,h3,Prod.mk.injEq,and_true];omega
   rw [hf] at HR
   clear hw hr h0 h1 h2 h3 hf HV hv
   obtain ⟨p,hp⟩ : ∃ p:Nat->Nat,p=fun j=>[0,n0,n0+256*n1,n0+256*n1+65536*n2,n0+256*n1+65536*n2+16777216*n3].getD j 0:=⟨_,rfl⟩
   have p0:p 0=0:=by rw [hp];rfl
   have p1:p 1=n0:=by rw [hp];rfl
   have p2:p 2=n0+256*n1:=by rw [hp];rfl
   have p3:p 3=n0+256*n1+65536*n2:=by rw [hp];rfl
   have p4:p 4=n0+256*n1+65536*n2+16777216*n3:=by rw [hp];rfl
   clear hp
   have P0:=hid p0
   have P1:=hid p1
   have P2:=hid p2
   have P3:=hid p3
   have P4:=hid p4
   clear p0 p1 p2 p3 p4
   have C0:=hid hc0
   have C1:=hid hc1
   have C2:=hid hc2
   have C3:=hid hc3
   clear hc0 hc1 hc2 hc3
   repeat' (first|refine ax0m ?_|(refine abb ?_;intro b)|refine ax1m ?_|(refine aac ?_;intro ac cc)|refine ax2m ?_|(refine ap3 ?_ ?_<;>try intro h)|apply True.intro)
   refine z04 (fun gg t H' => ∃ j q,gg=5 - j/\j<=4/\q=p j/\(∃ G,Takes [pt g (rdr v2 false)] H' G)/\(t.length=26/\t[2]?=some (.int .u32 q)/\t[10]?=some (.slice (some ⟨b,off,none⟩) 4 c4)/\t[11]?=some (.int .i64 4)/\t[12]?=some (.int .i64 j))) 5
    ⟨0,0,rfl,by omega,P0.out.symm,⟨[],by (exact atks)⟩,rfl,rfl,rfl,rfl,rfl⟩ ?_
   rintro gg t H' ⟨j,q,rfl,hj,hq,⟨G,hp⟩,hlen,e2,e10,e11,e12⟩
   revert e2 e10 e11 e12;revert t;refine z0s (n:=26) ?_;intro u0 u1 u2 u3 u4 u5 u6 u7 u8 u9 u10 u11 u12 u13 u14 u15 u16 u17 u18 u19 u20 u21 u22 u23 u24 u25 e2 e10 e11 e12;cases e2;cases e10;cases e11;cases e12
   have HQ:=hid hq
   clear hq
   refine z01 hp ?_
   clear hp
   obtain rfl|rfl|rfl|rfl|rfl:j=0\/j=1\/j=2\/j=3\/j=4:=by omega
   · have hc:=C0.out [pt g (rdr v2 false)]
     have hq:=HQ.out
     rw [P0.out] at hq
     obtain ⟨q2,hq2⟩ : ∃ q2,q2=p 1:=⟨_,rfl⟩
     have hor:bits BinOp.or IntKind.u32 (q:Int) (n0:Int)=(q2:Int):=by
      have h:=zdy q n0 0 (by rw [hq];omega) (by omega)
      rw [hq2,P1.out]
      refine Eq.trans ?_ (h.trans ?_)
      · simp
      · rw [hq];congr 1;omega
     have HQ2:=hid hq2
     clear hq hq2
     repeat' (first|refine ax0m ?_|(refine abb ?_;intro b)|refine ax1m ?_|(refine aac ?_;intro ac cc)|refine ax2m ?_|(refine ap3 ?_ ?_<;>try intro h)|apply True.intro)
     exact ⟨_,by omega,1,q2,rfl,by omega,HQ2.out,⟨_,by (exact atks)⟩,rfl,rfl,rfl,rfl,rfl⟩
   · have hc:=C1.out [pt g (rdr v2 false)]
     have hq:=HQ.out
     rw [P1.out] at hq
     obtain ⟨q2,hq2⟩ : ∃ q2,q2=p 2:=⟨_,rfl⟩
     have hor:bits BinOp.or IntKind.u32 (q:Int) ((n1:Int)*256)=(q2:Int):=by
      have h:=zdy q n1 8 (by rw [hq];omega) (by omega)
      rw [hq2,P2.out]
      refine Eq.trans ?_ (h.trans ?_)
      · simp
      · rw [hq];congr 1;omega
     have HQ2:=hid hq2
     clear hq hq2
     repeat' (first|refine ax0m ?_|(refine abb ?_;intro b)|refine ax1m ?_|(refine aac ?_;intro ac cc)|refine ax2m ?_|(refine ap3 ?_ ?_<;>try intro h)|apply True.intro)
     exact ⟨_,by omega,2,q2,rfl,by omega,HQ2.out,⟨_,by (exact atks)⟩,rfl,rfl,rfl,rfl,rfl⟩
   · have hc:=C2.out [pt g (rdr v2 false)]
     have hq:=HQ.out
     rw [P2.out] at hq
     obtain ⟨q2,hq2⟩ : ∃ q2,q2=p 3:=⟨_,rfl⟩
     have hor:bits BinOp.or IntKind.u32 (q:Int) ((n2:Int)*65536)=(q2:Int):=by
      have h:=zdy q n2 16 (by rw [hq];omega) (by omega)
      rw [hq2,P3.out]
      refine Eq.trans ?_ (h.trans ?_)
      · simp
      · rw [hq];congr 1;omega
     have HQ2:=hid hq2
     clear hq hq2
     repeat' (first|refine ax0m ?_|(refine abb ?_;intro b)|refine ax1m ?_|(refine aac ?_;intro ac cc)|refine ax2m ?_|(refine ap3 ?_ ?_<;>try intro h)|apply True.intro)
     exact ⟨_,by omega,3,q2,rfl,by omega,HQ2.out,⟨_,by (exact atks)⟩,rfl,rfl,rfl,rfl,rfl⟩
   · have hc:=C3.out [pt g (rdr v2 false)]
     have hq:=HQ.out
     rw [P3.out] at hq
     obtain ⟨q2,hq2⟩ : ∃ q2,q2=p 4:=⟨_,rfl⟩
     have hor:bits BinOp.or IntKind.u32 (q:Int) ((n3:Int)*16777216)=(q2:Int):=by
      have h:=zdy q n3 24 (by rw [hq];omega) (by omega)
      rw [hq2,P4.out]
      refine Eq.trans ?_ (h.trans ?_)
      · simp
      · rw [hq];congr 1;omega
     have HQ2:=hid hq2
     clear hq hq2
     repeat' (first|refine ax0m ?_|(refine abb ?_;intro b)|refine ax1m ?_|(refine aac ?_;intro ac cc)|refine ax2m ?_|(refine ap3 ?_ ?_<;>try intro h)|apply True.intro)
     exact ⟨_,by omega,4,q2,rfl,by omega,HQ2.out,⟨_,by (exact atks)⟩,rfl,rfl,rfl,rfl,rfl⟩
   · have hq:=HQ.out
     rw [P4.out] at hq
     have HQ3:=hid hq
     clear hq
     repeat' (first|refine ax0m ?_|(refine abb ?_;intro b)|refine ax1m ?_|(refine aac ?_;intro ac cc)|refine ax2m ?_|(refine ap3 ?_ ?_<;>try intro h)|apply True.intro)
     ((with_reducible apply z00);exact res_1 rfl rfl)
     exact HR.out _ [] _ _ atks ⟨by rw [HQ3.out];congr 2;omega,v2,false,hv2,rfl⟩
theorem zl8 {most:Int} {l x:List UInt8} {n:Nat} (h:getN most l=some (n,x)):(n:Int)<=most:=by
 unfold getN at h
 cases e:getS 0 0 l with
 | none=>rw [e] at h;cases h
 | some p =>
  obtain ⟨m,y⟩:=p
  rw [e] at h
  simp only at h
  split at h
  · rename_i c;simp only [Option.some.injEq,Prod.mk.injEq] at h;rw [← h.1];exact c.1
  · cases h
theorem z18 (most:Nat) (st:Option (List UInt8)):(numR most st).1<=most:=by
 cases st with
 | none=>simp [numR]
 | some l =>
  cases e:getN most l with
  | none=>simp [numR,e]
  | some p=>obtain ⟨n,x⟩:=p;simp only [numR,e];have:=zl8 e;omega
theorem z6m (most:Nat) (st:Option (List UInt8)):(textR most st).1.length<=most:=by
 unfold textR takeR
 have h:=z18 most st
 split
 · simp
 · split
   · simp
   · simp only [List.length_take];omega
theorem z9f (st:Option (List UInt8)):(fixR st).1<4294967296:=by
 unfold fixR
 split
 · rename_i a b c d l
   have:=a.toNat_lt;have:=b.toNat_lt;have:=c.toNat_lt;have:=d.toNat_lt
   simp only [ofBytes];omega
 · simp
theorem znv (r:Hp) (g:Nat) (v:Value) (l:List UInt8) (hv:U8S r v l):Tri Tryz.prog r 188 [.pointer (some ⟨g,0,none⟩)] [pt g (rdr v false)] fun w H=>w = .int .i64 l.length/\H=[pt g (rdr v false)]:=z3v r g v false l hv
theorem RdOk.bad {r:Hp} {v:Value} {st:Option (List UInt8)} (h:RdOk r v true st):st=none:=by
 rcases h with ⟨a,_⟩ | ⟨_,b,_⟩
 · cases a
 · exact b
theorem RdOk.good {r:Hp} {v:Value} {st:Option (List UInt8)} (h:RdOk r v false st) : ∃ l,st=some l/\U8S r v l:=by
 rcases h with ⟨_,b⟩ | ⟨a,_⟩
 · exact b
 · cases a
attribute [local go_sem] Oper.semAt_some
def docR (st:Option (List UInt8)):DocV × Option (List UInt8) :=
 (⟨(textR 200 st).1,langOf (textR 200 st).1,(fixR (textR 200 st).2).1,(numR 1048576 (fixR (textR 200 st).2).2).1⟩,(numR 1048576 (fixR (textR 200 st).2).2).2)
theorem znw (r:Hp) (g:Nat) (v:Value) (bad:Bool) (st:Option (List UInt8)) (hv:RdOk r v bad st) :
 Tri Tryz.prog r 186 [.agg [.pointer (some ⟨g,0,none⟩)].toArray] [pt g (rdr v bad)] fun w H=>w = .agg (encD (docR st).1).toArray /\ ∃ v' bad',RdOk r v' bad' (docR st).2/\H=[pt g (rdr v' bad')]:=by
 refine Tri.free fun R HR=>?_
 have h1:=zci r g v bad st 200 hv
 have hpl:=z6m 200 st
 have h2:=fun (r':Hp) v' bad' (h:RdOk r' v' bad' (textR 200 st).2)=>ze0 r' g v' bad' _ h
 have h3:=fun v' bad' (h:RdOk r v' bad' (fixR (textR 200 st).2).2)=>z4g r g v' bad' _ 1048576 h
 unfold docR at HR
 have e200:((200:Nat):Int)=200:=rfl
 rw [e200] at hpl
 generalize textR 200 st=T at h1 hpl h2 h3 HR
 obtain ⟨p,s1⟩:=T
 dsimp only at h1 hpl h2 h3 HR
 generalize fixR s1=F at h2 h3 HR
 obtain ⟨cs,s2⟩:=F
 dsimp only at h2 h3 HR
 generalize numR 1048576 s2=N at h3 HR
 obtain ⟨n,s3⟩:=N
 dsimp only at h3 HR
 have hlof:=fun r'=>zha r' (bs p) (by rw [z0x];omega)
 rw [show (bs p).data.toList=p from rfl] at hlof
 have H1:=hid h1
 have H2:=hid h2
 have H3:=hid h3
 have HLOF:=hid hlof
 clear h1 h2 h3 hlof hv e200
 unfold encD at HR
 refine ae Tryz.func186 Tryz.ntmps186 ?_
 repeat' (first|((with_reducible apply z2w);rfl;(exact qcl);intro b1;(refine apk ?_))|((with_reducible apply z0c);exact z0l;(exact qcl);intro b2;(refine apk ?_))|(refine acl Tryz.func191 ?_;refine acr (H1.out) ?_;rintro v' H' ⟨a1,c1,v1,bad1,rfl,hv1,rfl⟩;refine apl ?_)|refine ax0 ?_|(refine abb ?_;intro b)|refine ax1 ?_|(refine aac ?_;intro ac cc)|refine ax2 ?_|(refine ap3 ?_ ?_<;>try intro h)|apply True.intro)
 ((with_reducible apply z02 (id:=2) 8 [(0,true),(3,true),(4,true),(1,false),(2,false),(6,true),(5,false),(7,false)] [(8,false),(9,false)] [(b1,.cells [.pointer (some ⟨g,0,none⟩)].toArray 300 (0,0))]);kernel_rfl;(exact atks);kernel_rfl;intro r' hl')
 have hb0:=hl'.2 _ List.mem_cons_self
 repeat' (first|refine ax0m ?_|(refine abb ?_;intro b)|(refine acl Tryz.func79 ?_;refine acr (HLOF.out r') ?_;rintro v' H' ⟨rfl,rfl⟩;refine apl ?_)|(refine acl Tryz.func183 ?_;refine acr ((H2.out r v1 bad1 hv1).up hl'.1) ?_;rintro v' H' ⟨rfl,v2,bad2,hv2,rfl⟩;refine apl ?_)|refine ax1m ?_|(refine aac ?_;intro ac cc)|refine ax2m ?_|(refine ap3 ?_ ?_<;>try intro h)|apply True.intro)
 repeat' (first|(refine acl Tryz.func185 ?_;refine acr (H3.out v2 bad2 hv2) ?_;rintro v' H' ⟨rfl,v3,bad3,hv3,rfl⟩;refine apl ?_)|refine ax0 ?_|(refine abb ?_;intro b)|refine ax1 ?_|(refine aac ?_;intro ac cc)|refine ax2 ?_|(refine ap3 ?_ ?_<;>try intro h)|apply True.intro)
 ((with_reducible apply z00);apply zsh;rfl;exact z0a;rfl;(exact atk);exact z08)
 exact HR.out _ [pt b1 _,U8R _ p,pt b2 _] _ _ atks ⟨rfl,v3,bad3,hv3,rfl⟩
def docsR:Nat->Option (List UInt8)->List DocV × Option (List UInt8)
 | 0,st=>([],st)
 | n+1,st=>if (docR st).2=none then ([(docR st).1],none) else ((docR st).1::(docsR n (docR st).2).1,(docsR n (docR st).2).2)
theorem z5l (n:Nat) (st:Option (List UInt8)):docsR (n+1) st=if (docR st).2=none then ([(docR st).1],none) else ((docR st).1::(docsR n (docR st).2).1,(docsR n (docR st).2).2):=rfl
def getDocs (l:List UInt8):List DocV × Option (List UInt8):=docsR (numR 4000 (some l)).1 (numR 4000 (some l)).2
def getOk (l:List UInt8):Bool:=decide ((getDocs l).2=some []) && docsOk (getDocs l).1
theorem zqp (st:Option (List UInt8)):(docR st).1.path.length<=200/\(docR st).1.sum<4294967296:=⟨z6m 200 st,z9f _⟩
theorem z6n : ∀ (n:Nat) (st:Option (List UInt8)),(docsR n st).1.length<=n /\ ∀ d∈(docsR n st).1,d.path.length<=200/\d.sum<4294967296
 | 0,st=>by simp [docsR]
 | n+1,st=>by
  unfold docsR
  have h1:=zqp st
  have h2:=z6n n (docR st).2
  split
  · refine ⟨by simp,fun d hd=>?_⟩
    obtain rfl:d=(docR st).1:=by simpa using hd
    exact h1
  · refine ⟨by simp;exact h2.1,fun d hd=>?_⟩
    rcases List.mem_cons.1 hd with rfl|hd
    · exact h1
    · exact h2.2 d hd
theorem zqq (r:Hp) (v:Value) (l:List UInt8) (hv:U8S r v l) (hl:l.length<=1000000000):Tri Tryz.prog r 123 [v] [] fun w H =>
 if getOk l then ∃ a c,w = .tuple #[.slice a (getDocs l).1.length c,.int .i64 0]/\H=[DocR (.slice a (getDocs l).1.length c) (getDocs l).1] else w = .tuple #[.slice none 0 0,.int .i64 9]/\H=[]:=by
 refine Tri.free fun R HR=>?_
 obtain ⟨a,c,rfl⟩:=hv.form
 have HV:=hid hv
 have hb:=z6n (numR 4000 (some l)).1 (numR 4000 (some l)).2
 have hn4:=z18 4000 (some l)
 have hnum:=fun r' g v' (h:U8S r' v' l)=>z4g r' g v' false (some l) 4000 (.inl ⟨rfl,l,rfl,h⟩)
 rw [show docsR (numR 4000 (some l)).1 (numR 4000 (some l)).2=getDocs l from rfl] at hb
 have hgd:getDocs l=docsR (numR 4000 (some l)).1 (numR 4000 (some l)).2:=rfl
 unfold getOk at HR
 generalize getDocs l=GD at hb hgd HR
 rw [show ((4000:Nat):Int)=4000 from rfl] at hn4
 generalize numR 4000 (some l)=N at hb hn4 hnum hgd
 obtain ⟨n,st1⟩:=N
 dsimp only at hb hn4 hnum hgd
 have HNUM:=hid hnum
 have HGD:=hid hgd
 have HB:=hid hb
 clear hnum hgd hb hv
 refine ae Tryz.func123 Tryz.ntmps123 ?_
 refine z0f (A:=RowC 119 4 (.slice none 0 0) 0 []) (RowC.nil _ _) ?_
 repeat' (first|((with_reducible apply z0c);exact z0l;(exact qcl);intro b4;(refine apk ?_))|(refine acl Tryz.func182 ?_;refine acr (z8r r _ l HV.out hl) ?_;rintro v' H' ⟨g,v0,rfl,rfl⟩;refine apl ?_)|((with_reducible apply z12 (A:=U8R v0 l));(exact atk);intro r1 g1 hr1 hg1 hA1)|(refine acl Tryz.func185 ?_;refine acr (HNUM.out r1 g v0 (hA1.sl hg1)) ?_;rintro v' H' ⟨rfl,v1,bad1,hv1,rfl⟩;refine apl ?_)|refine ax0 ?_|(refine abb ?_;intro b)|refine ax1 ?_|(refine aac ?_;intro ac cc)|refine ax2 ?_|(refine ap3 ?_ ?_<;>try intro h)|apply True.intro)
 refine z04 (fun gg t H' => ∃ (k:Nat) (a':Option Addr) (c':Nat) (v':Value) (bad:Bool) (st:Option (List UInt8)) (ds:List DocV),gg=n+1 - k/\k<=n/\ds.length=k/\docsR n st1=(ds++(docsR (n - k) st).1,(docsR (n - k) st).2)/\RdOk r1 v' bad st /\
  (∃ G,Takes [pt b4 (.cells [.pointer (some ⟨g,0,none⟩)].toArray 300 (0,0)),pt g (rdr v' bad),RowC 119 4 (.slice a' k c') k (ds.flatMap encD)] H' G)/\(t.length=39/\t[2]?=some (.slice a' k c')/\t[4]?=some (.pointer (some ⟨b4,0,none⟩))/\t[10]?=some (.int .i64 n)/\t[11]?=some (.int .i64 k))) (n+1)
  ⟨0,none,0,v1,bad1,st1,[],rfl,Nat.zero_le _,rfl,rfl,hv1,⟨[],by (exact atks)⟩,rfl,rfl,rfl,rfl,rfl⟩ ?_
 rintro gg t H' ⟨k,a1,c1,v',bad,st,ds,rfl,hk,hdl,hds,hv',⟨G,hp⟩,hlen,e2,e4,e10,e11⟩
 revert e2 e4 e10 e11;revert t;refine z0s (n:=39) ?_;intro u0 u1 u2 u3 u4 u5 u6 u7 u8 u9 u10 u11 u12 u13 u14 u15 u16 u17 u18 u19 u20 u21 u22 u23 u24 u25 u26 u27 u28 u29 u30 u31 u32 u33 u34 u35 u36 u37 u38 e2 e4 e10 e11;cases e2;cases e4;cases e10;cases e11
 refine z01 hp ?_
 clear hp
 by_cases hlt:k<n
 · have hd:=znw r1 g v' bad st hv'
   obtain ⟨D,hD⟩ : ∃ D,docR st=D:=⟨_,rfl⟩
   obtain ⟨d,st2⟩:=D
   rw [hD] at hd
   dsimp only at hd
   obtain ⟨j,hj⟩ : ∃ j,n - k=j+1:=⟨n - k - 1,by omega⟩
   have hstep:docsR n st1=if st2=none then (ds++[d],none) else ((ds++[d])++(docsR j st2).1,(docsR j st2).2):=by
    rw [hds,hj,z5l,hD];dsimp only;split<;>simp
   have HD:=hid hd
   have HST:=hid hstep
   clear hd hD hstep hds
   unfold encD at HD
   obtain ⟨p,la,cs,z⟩:=d
   dsimp only at HD
   obtain ⟨xs,hxs⟩ : ∃ xs,ds.flatMap encD=xs:=⟨_,rfl⟩
   rw [hxs]
   have HXS:=hid hxs
   clear hxs
   repeat' (first|(refine acl Tryz.func186 ?_;refine acr (HD.out) ?_;rintro v' H' ⟨rfl,v2,bad2,hv2,rfl⟩;refine apl ?_)|(first|((with_reducible apply z0t);exact ty_el;exact z03;rfl;rfl;rfl;intro bz;(refine apk ?_))|((with_reducible apply z0y);exact ty_el;exact z03;rfl;rfl;rfl;intro bz;(refine apk ?_)))|(first|((with_reducible apply z0d);exact ty_el;exact z03;rfl;rfl;rfl;(exact atk);(exact atk);rfl;(omega);intro a' c';(refine apk ?_))|((with_reducible apply z0m);exact ty_el;exact z03;rfl;rfl;rfl;rfl;(exact atk);(exact atk);rfl;rfl;(omega);intro a' c';(refine apk ?_)))|(refine acl Tryz.func187 ?_;refine acr (z3q _ g v2 bad2) ?_;rintro v' H' ⟨rfl,rfl⟩;refine apl ?_)|refine ax0 ?_|(refine abb ?_;intro b)|refine ax1 ?_|(refine aac ?_;intro ac cc)|refine ax2 ?_|(refine ap3 ?_ ?_<;>try intro h)|apply True.intro)
   · ((with_reducible apply z00);exact res_2 rfl rfl rfl)
     have hb:bad2=true:=by assumption
     subst hb
     have hn:=hv2.bad
     have e:=HST.out
     rw [if_pos hn] at e
     exact HR.out _ _ _ [] Takes.all (by rw [HGD.out,e,if_neg (by simp)];exact ⟨rfl,rfl⟩)
   · have hb:bad2=false:=by assumption
     subst hb
     obtain ⟨x,hx,_⟩:=hv2.good
     have e:=HST.out
     rw [if_neg (by rw [hx];simp)] at e
     exact ⟨_,by omega,k+1,a',c',v2,false,st2,ds++[⟨p,la,cs,z⟩],rfl,by omega,by simp;exact hdl,by rw [e,show n - (k+1)=j by omega],hv2,
      ⟨_,by rw [List.flatMap_append,HXS.out];simp only [List.flatMap_cons,List.flatMap_nil,List.append_nil,encD];(exact atks)⟩,rfl,rfl,rfl,rfl,rfl⟩
 · obtain rfl:k=n:=by omega
   rw [Nat.sub_self] at hds
   have hgd:=HGD.out
   rw [hds] at hgd
   simp only [docsR,List.append_nil] at hgd
   subst hgd
   dsimp only at HR HB
   have HDS:=hid hds
   clear hds
   obtain ⟨hB1,hB2⟩:=HB.out
   have hok:=fun r' (h:RowC 119 4 (.slice a1 k c1) k (ds.flatMap encD) r')=>True
   have HOK:=hid (fun (r2 g2:Hp) (hg2:sub g2 r2) (h:RowC 119 4 (.slice a1 k c1) k (ds.flatMap encD) g2)=>zbr r2 (.slice a1 k c1) ds ⟨fun _=>rfl,by rw [hdl];exact h.sl hg2⟩ (fun x hx=>Nat.le_trans (hB2 x hx).1 (by omega)))
   clear hB1 hB2 hok
   cases bad
   · obtain ⟨x,rfl,hx⟩:=hv'.good
     obtain ⟨nx,hnx⟩ : ∃ nx,x.length=nx:=⟨_,rfl⟩
     have hlf:=znv r1 g v' x hx
     rw [hnx] at hlf
     obtain ⟨q,hq⟩ : ∃ q,docsOk ds=q:=⟨_,rfl⟩
     rw [hq] at HOK HR
     obtain ⟨q2,hq2⟩ : ∃ q2,decide (0<nx)=q2:=⟨_,rfl⟩
     have hx0:decide (some x=some []) = !q2:=by
      rw [← hq2]
      cases x with
      | nil=>simp at hnx;subst hnx;simp
      | cons y x=>simp at hnx;simp;omega
     rw [hx0] at HR
     have HLF:=hid hlf
     clear hlf hx0 hq
     cases q2
     · cases q
       all_goals
        repeat' (first|(refine acl Tryz.func187 ?_;refine acr (z3q _ g v' false) ?_;rintro v' H' ⟨rfl,rfl⟩;refine apl ?_)|(refine acl Tryz.func188 ?_;refine acr (HLF.out) ?_;rintro v' H' ⟨rfl,rfl⟩;refine apl ?_)|((with_reducible apply z05 (A:=RowC 119 4 (.slice a1 k c1) k (ds.flatMap encD)));(exact atk);intro r2 g2 hr2 hg2 hA2;(refine acl Tryz.func84 ?_;refine acr (HOK.out r2 g2 hg2 hA2) ?_;rintro v' H' ⟨rfl,rfl⟩;refine apl ?_))|refine ax0 ?_|(refine abb ?_;intro b)|refine ax1 ?_|(refine aac ?_;intro ac cc)|refine ax2 ?_|(refine ap3 ?_ ?_<;>try intro h)|apply True.intro)
        ((with_reducible apply z00);exact res_2 rfl rfl rfl)
        first
        | exact HR.out _ _ _ [] Takes.all (by rw [if_neg (by simp)];exact ⟨rfl,rfl⟩)
        | exact HR.out _ [pt g _,pt b4 _] _ _ atks (by rw [if_pos (by simp)];exact ⟨a1,c1,by rw [hdl],by unfold DocR;rw [hdl]⟩)
     · repeat' (first|(refine acl Tryz.func187 ?_;refine acr (z3q _ g v' false) ?_;rintro v' H' ⟨rfl,rfl⟩;refine apl ?_)|(refine acl Tryz.func188 ?_;refine acr (HLF.out) ?_;rintro v' H' ⟨rfl,rfl⟩;refine apl ?_)|refine ax0 ?_|(refine abb ?_;intro b)|refine ax1 ?_|(refine aac ?_;intro ac cc)|refine ax2 ?_|(refine ap3 ?_ ?_<;>try intro h)|apply True.intro)
       ((with_reducible apply z00);exact res_2 rfl rfl rfl)
       exact HR.out _ _ _ [] Takes.all (by rw [if_neg (by simp)];exact ⟨rfl,rfl⟩)
   · obtain rfl:=hv'.bad
     repeat' (first|(refine acl Tryz.func187 ?_;refine acr (z3q _ g v' true) ?_;rintro v' H' ⟨rfl,rfl⟩;refine apl ?_)|refine ax0 ?_|(refine abb ?_;intro b)|refine ax1 ?_|(refine aac ?_;intro ac cc)|refine ax2 ?_|(refine ap3 ?_ ?_<;>try intro h)|apply True.intro)
     ((with_reducible apply z00);exact res_2 rfl rfl rfl)
     exact HR.out _ _ _ [] Takes.all (by rw [if_neg (by simp)];exact ⟨rfl,rfl⟩)
end Go.Proofs.YtohpeoakdgckfaaGreat
