/- crc.made, update, Sum; mudlarkref01.take, Update, One: their contracts. -/
import Derived.Test.YtohpeoakdgckfaaGreatIdx
import Derived.Test.YtohpeoakdgckfaaGreatProg
import Derived.Test.YtohpeoakdgckfaaGreatSx
import Derived.Test.YtohpeoakdgckfaaGreatBits
import Derived.Test.YtohpeoakdgckfaaGreatWd
set_option maxHeartbeats 1000000
set_option maxRecDepth 10000
namespace Go.Proofs.YtohpeoakdgckfaaGreat
open Go.RowKit Sx
attribute [local go_sem] Oper.semAt_some
theorem and1 (s:Nat) (h:s<4294967296):(bits BinOp.and IntKind.u32 (s:Int) 1 == 1)=(s % 2 == 1):=by
 have e:=u32_and_nat s 1 h (by omega)
 rw [show ((1:Nat):Int)=1 from rfl] at e
 rw [e,Nat.and_one_is_mod]
 rcases Nat.mod_two_eq_zero_or_one s with h|h<;>rw [h]<;>rfl
theorem and1b (s:Nat) (h:s<256):(bits BinOp.and IntKind.u8 (s:Int) 1 == 1)=(s % 2 == 1):=by
 have e:=u8_and_nat s 1 h (by omega)
 rw [show ((1:Nat):Int)=1 from rfl] at e
 rw [e,Nat.and_one_is_mod]
 rcases Nat.mod_two_eq_zero_or_one s with h|h<;>rw [h]<;>rfl
theorem zqu (r:Hp) (s:Nat) (b:Bool) (hs:s<4294967296):Tri Tryz.prog r 197 [.int .u32 s,.bool b] [] fun w H=>w = .int .u32 (crcBit s b)/\H=[]:=by
 have e1:=and1 s hs
 have e2:bits BinOp.xor IntKind.u32 ((s:Int) / 2) 3988292384=((s / 2 ^^^ 3988292384:Nat):Int):=by
  have:=u32_xor_nat (s / 2) 3988292384 (by omega) (by omega)
  rw [Int.natCast_ediv] at this;exact this
 obtain ⟨q,hq⟩ : ∃ q,(s % 2 == 1)=q:=⟨_,rfl⟩
 rw [hq] at e1
 have HQ:=hid hq
 have E2:=hid e2
 clear hq e2
 cases q<;>cases b
 all_goals
  refine ae Tryz.func197 Tryz.ntmps197 ?_
  repeat' (first|refine ax0m ?_|(refine abb ?_;intro b)|refine ax1m ?_|(refine aac ?_;intro ac cc)|refine ax2m ?_|(refine ap3 ?_ ?_<;>try intro h)|apply True.intro)
  ((with_reducible apply z00);exact res_1 rfl rfl)
  refine ⟨?_,rfl⟩
  unfold crcBit
  rw [HQ.out]
  first
  | (simp;done)
  | (rw [E2.out];rfl)
theorem zny (r:Hp) (s:Nat) (b:Bool) (hs:s<4294967296):Tri Tryz.prog r 217 [.int .u32 s,.bool b] [] fun w H=>w = .int .u32 (crcBit s b)/\H=[]:=by
 have e1:=and1 s hs
 have e2:bits BinOp.xor IntKind.u32 ((s:Int) / 2) 3988292384=((s / 2 ^^^ 3988292384:Nat):Int):=by
  have:=u32_xor_nat (s / 2) 3988292384 (by omega) (by omega)
  rw [Int.natCast_ediv] at this;exact this
 obtain ⟨q,hq⟩ : ∃ q,(s % 2 == 1)=q:=⟨_,rfl⟩
 rw [hq] at e1
 have HQ:=hid hq
 have E2:=hid e2
 clear hq e2
 cases q<;>cases b
 all_goals
  refine ae Tryz.func217 Tryz.ntmps217 ?_
  repeat' (first|refine ax0m ?_|(refine abb ?_;intro b)|refine ax1m ?_|(refine aac ?_;intro ac cc)|refine ax2m ?_|(refine ap3 ?_ ?_<;>try intro h)|apply True.intro)
  ((with_reducible apply z00);exact res_1 rfl rfl)
  refine ⟨?_,rfl⟩
  unfold crcBit
  rw [HQ.out]
  first
  | (simp;done)
  | (rw [E2.out];rfl)
def bit1 (b:Bool):List Value:=[.bool b]
theorem znz (r:Hp) (n:Nat) (hn:n<256) (Bx:Nat):Seq Tryz.prog r 219 [.pointer (some ⟨Bx,0,none⟩)] bit1 (bitsOf n) [pt Bx (.cells [.int .u8 n].toArray 5 (0,0))] []:=by
 intro k J Jx hY
 have hlen:(bitsOf n).length=8:=by simp [bitsOf]
 refine Tri.free fun R HR=>?_
 have HY:=hid hY
 have HN:=hid hn
 have HL:=hid hlen
 clear hY hn hlen
 refine ae Tryz.func219 Tryz.ntmps219 ?_
 repeat' (first|refine ax0m ?_|(refine abb ?_;intro b)|refine ax1m ?_|(refine aac ?_;intro ac cc)|refine ax2m ?_|(refine ap3 ?_ ?_<;>try intro h)|apply True.intro)
 refine z04 (fun g t H' => ∃ j:Nat,g=9 - j/\j<=8/\(∃ G,Takes [J j,pt Bx (.cells [.int .u8 (n / 2 ^ j:Nat)].toArray 5 (0,0))] H' G)/\(t.length=14/\t[0]?=some (.func (.yield k) #[] #[])/\t[1]?=some (.pointer (some ⟨Bx,0,none⟩))/\t[3]?=some (.int .i64 j))) 9
  ⟨0,rfl,by omega,⟨[],by simp;(exact atks)⟩,rfl,rfl,rfl,rfl⟩ ?_
 rintro g t H' ⟨j,rfl,hj,⟨G,hp⟩,hlen,e0,e1,e3⟩
 revert e0 e1 e3;revert t;refine z0s (n:=14) ?_;intro u0 u1 u2 u3 u4 u5 u6 u7 u8 u9 u10 u11 u12 u13 e0 e1 e3;cases e0;cases e1;cases e3
 refine z01 hp ?_
 clear hp
 by_cases hlt:j<8
 · obtain ⟨m,hm⟩ : ∃ m,n / 2 ^ j=m:=⟨_,rfl⟩
   have hmn:m<256:=by rw [← hm];exact Nat.lt_of_le_of_lt (Nat.div_le_self _ _) HN.out
   have hm2:n / 2 ^ (j+1)=m / 2:=by rw [Nat.pow_succ,← Nat.div_div_eq_div_mul,hm]
   have hy:=HY.out j (by rw [HL.out];exact hlt)
   have hb:(bitsOf n)[j]'(by rw [HL.out];exact hlt)=(m % 2 == 1):=by simp [bitsOf,hm]
   rw [hb] at hy
   have e1:=and1b m hmn
   have HY1:=hid hy
   have HM2:=hid hm2
   rw [hm]
   clear hy hb hm hm2
   repeat' (first|refine ax0m ?_|(refine abb ?_;intro b)|((with_reducible apply z2o);rfl;exact (HY1.out);rfl;(exact atk);all_goals (refine apk ?_))|refine ax1m ?_|(refine aac ?_;intro ac cc)|refine ax2m ?_|(refine ap3 ?_ ?_<;>try intro h)|apply True.intro)
   · exact ⟨_,by omega,j+1,rfl,by omega,⟨_,by rw [HM2.out,Int.natCast_ediv];(exact atks)⟩,rfl,rfl,rfl,rfl⟩
   · ((with_reducible apply z00);exact res_0 rfl)
     exact HR.out _ [pt Bx _] _ [Jx (j+1)] atks (.inr ⟨j,[],by rw [HL.out];exact hlt,rfl⟩)
 · obtain rfl:j=8:=by omega
   repeat' (first|refine ax0m ?_|(refine abb ?_;intro b)|refine ax1m ?_|(refine aac ?_;intro ac cc)|refine ax2m ?_|(refine ap3 ?_ ?_<;>try intro h)|apply True.intro)
   ((with_reducible apply z1k);exact res_0 rfl)
   exact HR.out _ [pt Bx _] _ [J 8] atks (.inl (by rw [HL.out]))
theorem zo0 (r:Hp) (n:Nat):Tri Tryz.prog r 196 [.int .u8 n] [] fun v H => ∃ b,v = .func (.func 219) #[] #[.pointer (some ⟨b,0,none⟩)]/\H=[pt b (.cells [.int .u8 n].toArray 5 (0,0))]:=by
 refine ae Tryz.func196 Tryz.ntmps196 ?_
 repeat' (first|refine ax0m ?_|(refine abb ?_;intro b)|refine ax1m ?_|(refine aac ?_;intro ac cc)|refine ax2m ?_|(refine ap3 ?_ ?_<;>try intro h)|apply True.intro)
 ((with_reducible apply z00);exact res_1 rfl rfl)
 exact ⟨_,rfl,rfl⟩
attribute [local go_sem] Oper.semAt_some
def tabN (i x j:Nat):Nat:=if j<i then crcTab j else if j=i then x else 0
def tab (i x:Nat):Array Value:=((List.range 256).map fun j=>Value.int .u32 (tabN i x j:Nat)).toArray
theorem z37 (i x:Nat):(tab i x).size=256:=by simp [tab]
theorem zcj (i x j:Nat) (h:j<256):(tab i x)[j]?=some (.int .u32 (tabN i x j:Nat)):=by simp [tab,h]
theorem zqv (i x y:Nat) (h:i<256):(tab i x).setIfInBounds i (.int .u32 (y:Nat))=tab i y:=by
 apply Array.ext
 · simp [tab]
 · intro j h1 h2
   have hj:j<256:=by rw [z37] at h2;exact h2
   have e1:=Array.getElem?_setIfInBounds (xs:=tab i x) (i:=i) (j:=j) (a:=Value.int .u32 (y:Nat))
   rw [Array.getElem?_eq_getElem h1] at e1
   have e2:=zcj i y j hj
   rw [Array.getElem?_eq_getElem h2] at e2
   apply Option.some.inj
   rw [e1,e2]
   by_cases e:i=j
   · subst e;rw [if_pos rfl,if_pos (by rw [z37];exact h)];simp [tabN]
   · rw [if_neg e,zcj i x j hj]
     have:¬ j=i:=fun c=>e c.symm
     simp [tabN,this]
theorem zo1 (i:Nat):tab i (crcTab i)=tab (i+1) 0:=by
 unfold tab
 congr 2
 funext j
 congr 2
 unfold tabN
 by_cases h1:j<i
 · rw [if_pos h1,if_pos (by omega)]
 · by_cases h2:j=i
   · subst h2;rw [if_neg h1,if_pos rfl,if_pos (by omega)]
   · rw [if_neg h1,if_neg h2,if_neg (by omega)];split<;>rfl
theorem zla (i x:Nat):tabN i x i=x:=by simp [tabN]
theorem zqw {k:Nat} (h:k<256):tabN 256 0 k=crcTab k:=by simp [tabN,h]
theorem zlb (i x:Nat) : ∀ v∈(tab i x).toList,one? v=true:=by
 intro v hv
 simp [tab] at hv
 obtain ⟨j,_,rfl⟩:=hv
 rfl
attribute [irreducible] tab
theorem zo2 (r:Hp):Tri Tryz.prog r 138 [] [] fun w H=>w = .agg (tab 256 0)/\H=[]:=by
 refine Tri.free fun R HR=>?_
 refine ae Tryz.func138 Tryz.ntmps138 ?_
 repeat' (first|((with_reducible apply z0c (z:= .agg (tab 0 0)));kernel_rfl;(exact qcl);intro b0;(refine apk ?_))|refine ax0 ?_|(refine abb ?_;intro b)|refine ax1 ?_|(refine aac ?_;intro ac cc)|refine ax2 ?_|(refine ap3 ?_ ?_<;>try intro h)|apply True.intro)
 refine z04 (fun g t H' => ∃ k:Nat,g=257 - k/\k<=256/\(∃ G,Takes [pt b0 (.cells (tab k 0) 208 (0,0))] H' G)/\(t.length=19/\t[0]?=some (.pointer (some ⟨b0,0,none⟩))/\t[3]?=some (.int .i64 k))) 257
  ⟨0,rfl,by omega,⟨[],by (exact atks)⟩,rfl,rfl,rfl⟩ ?_
 rintro g t H' ⟨k,rfl,hk,⟨G,hp⟩,hlen,e0,e3⟩
 revert e0 e3;revert t;refine z0s (n:=19) ?_;intro u0 u1 u2 u3 u4 u5 u6 u7 u8 u9 u10 u11 u12 u13 u14 u15 u16 u17 u18 e0 e3;cases e0;cases e3
 refine z01 hp ?_
 clear hp
 by_cases hlt:k<256
 · have h256:((k:Int) % 256)=k:=by omega
   repeat' (first|((with_reducible apply z0c (z:= .int .i64 0));exact z0l;(exact qcl);intro bi;(refine apk ?_))|(refine acl Tryz.func196 ?_;refine acr (zo0 _ k) ?_;rintro v' H' ⟨b3,rfl,rfl⟩;refine apl ?_)|refine ax0 ?_|(refine abb ?_;intro b)|refine ax1 ?_|(refine aac ?_;intro ac cc)|refine ax2 ?_|(refine ap3 ?_ ?_<;>try intro h)|apply True.intro)
   refine z5x rfl (z2h Tryz.func219 (by kernel_rfl) rfl) (znz r k hlt b3) atks (fun _=>rfl)
    (fun j H=>Takes [pt b0 (.cells (tab k (((bitsOf k).take j).foldl crcBit 0)) 208 (0,0)),pt bi (.cells [.int .i64 k].toArray 3 (0,0))] H [])
    (fun _ _ _=>False) (by simp;(exact atks)) ?_ ?_ (fun _ _ _ _ h=>h.elim)
   · rintro k3 j hj H hp
     refine z6g hp ?_
     clear hp
     obtain ⟨x,hx⟩ : ∃ x,(bitsOf k)[j]=x:=⟨_,rfl⟩
     have htj:(bitsOf k).take (j+1)=(bitsOf k).take j++[x]:=by rw [List.take_succ_eq_append_getElem hj,hx]
     obtain ⟨s,hs⟩ : ∃ s,((bitsOf k).take j).foldl crcBit 0=s:=⟨_,rfl⟩
     have hlt2:s<4294967296:=by rw [← hs];exact z8v _ _ (by omega)
     have hs2:((bitsOf k).take (j+1)).foldl crcBit 0=crcBit s x:=by rw [htj,List.foldl_append,hs];rfl
     rw [hx,show bit1 x=[.bool x] from rfl,pars1,hs]
     have HS2:=hid hs2
     have HLT:=hid hlt2
     clear htj hs hs2 hlt2 hx
     (refine apk ?_)
     repeat' (first|refine ax0m ?_|(refine abb ?_;intro b)|refine ax1m ?_|(refine aac ?_;intro ac cc)|refine ax2m ?_|(refine ap3 ?_ ?_<;>try intro h)|apply True.intro)
     ((with_reducible apply z02 (id:=6) 6 [(0,true),(1,true),(2,true),(3,true),(4,true),(5,false)] [(6,false),(7,false)] [(b0,.cells (tab k s) 208 (0,0)),(bi,.cells [.int .i64 k].toArray 3 (0,0))]);kernel_rfl;(exact atks);kernel_rfl;intro r' hl')
     have hb0:=hl'.2 _ List.mem_cons_self
     have hb1:=hl'.2 _ (List.mem_cons_of_mem _ List.mem_cons_self)
     repeat' (first|((with_reducible apply z8b);rfl;rfl;exact z0a;rfl;exact rd_r hb0 ((zcj k s k hlt).trans (by rw [zla]));(refine apk ?_))|(refine acl Tryz.func197 ?_;refine acr (zqu _ s x HLT.out) ?_;rintro v' H' ⟨rfl,rfl⟩;refine apl ?_)|((with_reducible apply zn9);exact z08;rfl;rfl;(exact atk);rfl;rw [z37];exact hlt;(refine apk ?_))|refine ax0 ?_|(refine abb ?_;intro b)|refine ax1 ?_|(refine aac ?_;intro ac cc)|refine ax2 ?_|(refine ap3 ?_ ?_<;>try intro h)|apply True.intro)
     rw [HS2.out,zqv k s _ hlt];exact Takes.all
   · rintro H hp
     rw [List.take_of_length_le (by simp)] at hp
     refine z6g (show Takes _ _ [] from hp) ?_
     clear hp
     repeat' (first|refine ax0m ?_|(refine abb ?_;intro b)|refine ax1m ?_|(refine aac ?_;intro ac cc)|refine ax2m ?_|(refine ap3 ?_ ?_<;>try intro h)|apply True.intro)
     exact ⟨_,by omega,k+1,rfl,by omega,⟨_,by rw [← zo1];(exact atks)⟩,rfl,rfl,rfl⟩
 · obtain rfl:k=256:=by omega
   repeat' (first|refine ax0m ?_|(refine abb ?_;intro b)|((with_reducible apply z34);exact z0a;rfl;(exact atk);exact z08.trans (congrArg some (z37 _ _).symm);(refine apk ?_))|((with_reducible apply zdm);rfl;rfl;(exact atk);rfl;exact z08.trans (congrArg some (z37 _ _).symm);exact zlb _ _;(refine apk ?_))|refine ax1m ?_|(refine aac ?_;intro ac cc)|refine ax2m ?_|(refine ap3 ?_ ?_<;>try intro h)|apply True.intro)
   ((with_reducible apply z00);exact zl1 rfl z0a (z08.trans (congrArg some (z37 _ _).symm)) rfl atk)
   exact HR.out _ [pt b0 _] _ [] atks ⟨rfl,rfl⟩
theorem Rd1.mono {r r':Hp} {a:Addr} {v:Value} (h : ∀ H,Rd1 r H a v) (hr:sub r r') (H:List Ch):Rd1 r' H a v:=fun w g e1 e2 a=>h H w g (fun b o hb=>e1 b o (hr b o hb)) e2 a
def Chunks (r:Hp) (v:Value) (ls:List (Value × List UInt8)):Prop:=Sl r 1 v ls.length (ls.map (·.1)) /\ ∀ x∈ls,Sl r 1 x.1 x.2.length (u8s x.2)
def flat (ls:List (Value × List UInt8)):List UInt8:=ls.flatMap (·.2)
def inv32 (s:Nat):Nat:=4294967295 ^^^ s
theorem z8x {s:Nat} (h:s<4294967296):inv32 s<4294967296:=Nat.xor_lt_two_pow (n:=32) (by omega) h
theorem z8y (s:Nat) (h:s<4294967296) [d:Decidable (IntKind.u32.signed=true)]:bits BinOp.xor IntKind.u32 (@ite Int (IntKind.u32.signed=true) d (-1) IntKind.u32.max) (s:Int)=(inv32 s:Int):=by
 rw [if_neg (show ¬ IntKind.u32.signed=true from by simp [IntKind.signed])]
 show bits BinOp.xor IntKind.u32 ((4294967295:Nat):Int) (s:Int)=_
 exact u32_xor_nat 4294967295 s (by omega) h
theorem zlc (k:Nat):crcTab k<4294967296:=zau (by omega) _
theorem zay (s:Nat) (a b:List UInt8):crcAll s (a++b)=crcAll (crcAll s a) b:=by simp [crcAll,List.foldl_append]
theorem zjo (r:Hp) (b0 s0:Nat) (hs0:s0<4294967296) (v:Value) (ls:List (Value × List UInt8)) (hv:Chunks r v ls) :
 Tri Tryz.prog r 139 [.pointer (some ⟨b0,0,none⟩),.int .u32 s0,v] [pt b0 (.cells (tab 256 0) 208 (0,0))] fun w H=>w = .int .u32 (inv32 (crcAll (inv32 s0) (flat ls)):Nat)/\H=[]:=by
 refine Tri.free fun R HR=>?_
 obtain ⟨a,c,rfl⟩:=hv.1.form
 have HV:=hid hv
 obtain ⟨n,hn⟩ : ∃ n,ls.length=n:=⟨_,rfl⟩
 have HN:=hid hn
 obtain ⟨q0,hq0⟩ : ∃ q0,inv32 s0=q0:=⟨_,rfl⟩
 rw [hq0] at HR
 have hnm:=hv.1.2.1
 rw [hn] at hnm ⊢
 unfold maxLen at hnm
 clear hv
 have hq0l:q0<4294967296:=by rw [← hq0];exact z8x hs0
 have HS0:=hid hs0
 have HQ0:=hid hq0
 clear hn hq0 hs0
 refine ae Tryz.func139 Tryz.ntmps139 ?_
 repeat' (first|refine ax0m ?_|(refine abb ?_;intro b)|refine ax1m ?_|(refine aac ?_;intro ac cc)|refine ax2m ?_|(refine ap3 ?_ ?_<;>try intro h)|apply True.intro)
 rw [z8y s0 HS0.out,HQ0.out]
 refine z04 (fun gg t H' => ∃ (i s:Nat),gg=n+1 - i/\i<=n/\s=crcAll q0 (flat (ls.take i))/\(∃ G,Takes [pt b0 (.cells (tab 256 0) 208 (0,0))] H' G) /\
  (t.length=54/\t[0]?=some (.pointer (some ⟨b0,0,none⟩))/\t[1]?=some (.int .u32 s)/\t[2]?=some (.slice a n c)/\t[7]?=some (.int .i64 i)/\t[8]?=some (.int .i64 0))) (n+1)
  ⟨0,q0,rfl,Nat.zero_le _,by simp [flat,crcAll],⟨[],by (exact atks)⟩,rfl,rfl,rfl,rfl,rfl,rfl⟩ ?_
 rintro gg t H' ⟨i,s,rfl,hi,hs,⟨G,hp⟩,hlen,e0,e1,e2,e7,e8⟩
 revert e0 e1 e2 e7 e8;revert t;refine z0s (n:=54) ?_;intro u0 u1 u2 u3 u4 u5 u6 u7 u8 u9 u10 u11 u12 u13 u14 u15 u16 u17 u18 u19 u20 u21 u22 u23 u24 u25 u26 u27 u28 u29 u30 u31 u32 u33 u34 u35 u36 u37 u38 u39 u40 u41 u42 u43 u44 u45 u46 u47 u48 u49 u50 u51 u52 u53 e0 e1 e2 e7 e8;cases e0;cases e1;cases e2;cases e7;cases e8
 refine z01 hp ?_
 clear hp
 by_cases hlt:i<n
 · have hix:i<ls.length:=by rw [HN.out];exact hlt
   obtain ⟨hv1,hv2⟩:=HV.out
   rw [HN.out] at hv1
   obtain ⟨b2,off,u,rfl,hu,hc⟩:=hv1.at1 hlt
   obtain ⟨⟨xv,xl⟩,hx⟩ : ∃ x,ls[i]=x:=⟨_,rfl⟩
   obtain rfl:xv=u:=by rw [List.getElem?_map,List.getElem?_eq_getElem hix,hx] at hu;simpa using hu
   have hxs:=hv2 (xv,xl) (hx ▸ List.getElem_mem hix)
   dsimp only at hxs
   have htk:flat (ls.take (i+1))=flat (ls.take i)++xl:=by rw [List.take_succ_eq_append_getElem hix,hx];simp [flat]
   obtain ⟨ax,cx,rfl⟩:=hxs.form
   obtain ⟨nx,hnx⟩ : ∃ nx,xl.length=nx:=⟨_,rfl⟩
   rw [hnx] at hxs hc
   have hnxm:=hxs.2.1
   unfold maxLen at hnxm
   have HX:=hid hxs
   have HNX:=hid hnx
   have HTK:=hid htk
   have HC:=hid hc
   have HS:=hid hs
   clear hv1 hv2 hu hx hxs hnx htk hs hc
   have hc:=HC.out [pt b0 (.cells (tab 256 0) 208 (0,0))]
   repeat' (first|refine ax0m ?_|(refine abb ?_;intro b)|refine ax1m ?_|(refine aac ?_;intro ac cc)|refine ax2m ?_|(refine ap3 ?_ ?_<;>try intro h)|apply True.intro)
   clear hc
   refine z04 (fun gg t H' => ∃ (j s:Nat),gg=nx+1 - j/\j<=nx/\(j=nx->nx=0)/\s=crcAll q0 (flat (ls.take i)++xl.take j)/\(∃ G,Takes [pt b0 (.cells (tab 256 0) 208 (0,0))] H' G) /\
    (t.length=54/\t[0]?=some (.pointer (some ⟨b0,0,none⟩))/\t[1]?=some (.int .u32 s)/\t[2]?=some (.slice (some ⟨b2,off,none⟩) n c)/\t[7]?=some (.int .i64 i)/\t[8]?=some (.int .i64 j))) (nx+1)
    ⟨0,s,rfl,Nat.zero_le _,fun h=>h.symm,by rw [HS.out];simp,⟨[],by (exact atks)⟩,rfl,rfl,rfl,rfl,rfl,rfl⟩ ?_
   clear u3 u4 u5 u6
   rintro gg t H' ⟨j,s,rfl,hj,hjn,hs,⟨G,hp⟩,hlen,e0,e1,e2,e7,e8⟩
   revert e0 e1 e2 e7 e8;revert t;refine z0s (n:=54) ?_;intro u0 u1 u2 u3 u4 u5 u6 u7 u8 u9 u10 u11 u12 u13 u14 u15 u16 u17 u18 u19 u20 u21 u22 u23 u24 u25 u26 u27 u28 u29 u30 u31 u32 u33 u34 u35 u36 u37 u38 u39 u40 u41 u42 u43 u44 u45 u46 u47 u48 u49 u50 u51 u52 u53 e0 e1 e2 e7 e8;cases e0;cases e1;cases e2;cases e7;cases e8
   refine z01 hp ?_
   clear hp
   have HS2:=hid hs
   have HJN:=hid hjn
   clear hs hjn
   by_cases hlj:j<nx
   · have hjx:j<xl.length:=by rw [HNX.out];exact hlj
     obtain ⟨b3,off3,u,rfl,hu,hc3⟩:=HX.out.at1 hlj
     obtain ⟨x,hx⟩ : ∃ x:UInt8,xl[j]=x:=⟨_,rfl⟩
     obtain rfl:u = .int .u8 x.toNat:=by rw [u8s,List.getElem?_map,List.getElem?_eq_getElem hjx,hx] at hu;simpa using hu.symm
     obtain ⟨m,hm⟩ : ∃ m,x.toNat=m:=⟨_,rfl⟩
     have hml:m<256:=by rw [← hm];exact x.toNat_lt
     have hsl:s<4294967296:=by rw [HS2.out];exact z3x _ _ hq0l
     obtain ⟨k,hk⟩ : ∃ k,s % 256 ^^^ m=k:=⟨_,rfl⟩
     have hkl:k<256:=by rw [← hk];exact Nat.xor_lt_two_pow (n:=8) (Nat.mod_lt _ (by omega)) hml
     have hkb:bits BinOp.xor IntKind.u8 ((s:Int) % 256) (m:Int)=(k:Int):=by rw [← hk,← u8_xor_nat _ _ (by omega) hml];simp
     obtain ⟨s2,hs2⟩ : ∃ s2,crcTab k ^^^ s / 256=s2:=⟨_,rfl⟩
     have hsb:bits BinOp.xor IntKind.u32 (crcTab k:Int) ((s:Int) / 256)=(s2:Int):=by rw [← hs2,← u32_xor_nat _ _ (zlc k) (by omega)];simp
     have hst:s2=crcAll q0 (flat (ls.take i)++xl.take (j+1)):=by
      rw [List.take_succ_eq_append_getElem hjx,hx,← List.append_assoc,zay,← HS2.out,← hs2,← hk,← zgb s m hml,← hm];simp [crcAll]
     rw [hm] at hc3
     have HC3:=hid hc3
     have HST:=hid hst
     clear hu hx hm hk hs2 hst hc3
     have hc:=HC.out [pt b0 (.cells (tab 256 0) 208 (0,0))]
     repeat' (first|refine ax0m ?_|(refine abb ?_;intro b)|refine ax1m ?_|(refine aac ?_;intro ac cc)|refine ax2m ?_|(refine ap3 ?_ ?_<;>try intro h)|apply True.intro)
     ((with_reducible apply z02 (id:=5) 17 [(0,true),(1,true),(2,true),(3,true),(4,true),(5,true),(6,true),(7,true),(8,true),(9,true),(10,true),(11,true),(12,true),(13,true),(14,true),(15,true),(16,true)] [(17,false)] [(b0,.cells (tab 256 0) 208 (0,0))]);kernel_rfl;(exact atks);kernel_rfl;intro r' hl')
     have hb0:=hl'.2 _ List.mem_cons_self
     clear hc
     have hc:=Rd1.mono HC.out hl'.1 []
     have hc3:=Rd1.mono HC3.out hl'.1 []
     have hct:=rd_r (H:=[]) hb0 ((zcj 256 0 k hkl).trans (by rw [zqw hkl]))
     repeat' (first|refine ax0m ?_|(refine abb ?_;intro b)|refine ax1m ?_|(refine aac ?_;intro ac cc)|refine ax2m ?_|(refine ap3 ?_ ?_<;>try intro h)|apply True.intro)
     clear hc hc3 hct
     have hc:=HC.out [pt b0 (.cells (tab 256 0) 208 (0,0))]
     obtain ⟨q,hq⟩ : ∃ q,((j:Int)+1 == (nx:Int))=q:=⟨_,rfl⟩
     cases q
     · repeat' (first|refine ax0m ?_|(refine abb ?_;intro b)|refine ax1m ?_|(refine aac ?_;intro ac cc)|refine ax2m ?_|(refine ap3 ?_ ?_<;>try intro h)|apply True.intro)
       have hq2:¬ j+1=nx:=by simp at hq;omega
       exact ⟨_,by omega,j+1,_,rfl,by omega,by omega,HST.out,⟨_,by (exact atks)⟩,rfl,rfl,rfl,rfl,rfl,rfl⟩
     · repeat' (first|refine ax0m ?_|(refine abb ?_;intro b)|refine ax1m ?_|(refine aac ?_;intro ac cc)|refine ax2m ?_|(refine ap3 ?_ ?_<;>try intro h)|apply True.intro)
       have hq2:j+1=nx:=by simp at hq;omega
       exact ⟨_,by omega,i+1,_,rfl,by omega,by rw [HST.out,HTK.out,List.take_of_length_le (l:=xl) (i:=j+1) (by rw [HNX.out];omega)],⟨_,by (exact atks)⟩,rfl,rfl,rfl,rfl,rfl,rfl⟩
   · obtain rfl:j=nx:=by omega
     have h0:=HJN.out rfl
     subst h0
     have hc:=HC.out [pt b0 (.cells (tab 256 0) 208 (0,0))]
     repeat' (first|refine ax0m ?_|(refine abb ?_;intro b)|refine ax1m ?_|(refine aac ?_;intro ac cc)|refine ax2m ?_|(refine ap3 ?_ ?_<;>try intro h)|apply True.intro)
     exact ⟨_,by omega,i+1,_,rfl,by omega,by rw [HS2.out,HTK.out,List.take_of_length_le (l:=xl) (by rw [HNX.out];omega)],⟨_,by (exact atks)⟩,rfl,rfl,rfl,rfl,rfl,rfl⟩
 · obtain rfl:i=n:=by omega
   rw [List.take_of_length_le (by rw [HN.out];omega)] at hs
   have HS2:=hid hs
   have hsl:s<4294967296:=by rw [hs];exact z3x _ _ hq0l
   clear hs
   repeat' (first|refine ax0m ?_|(refine abb ?_;intro b)|refine ax1m ?_|(refine aac ?_;intro ac cc)|refine ax2m ?_|(refine ap3 ?_ ?_<;>try intro h)|apply True.intro)
   ((with_reducible apply z00);exact res_1 rfl rfl)
   exact HR.out _ [pt b0 _] _ [] atks ⟨by rw [← HS2.out];exact congrArg _ (z8y s hsl),rfl⟩
theorem zgj (r:Hp) (v:Value) (ls:List (Value × List UInt8)) (hv:Chunks r v ls) :
 Tri Tryz.prog r 80 [v] [] fun w H=>w = .int .u32 (inv32 (crcAll 4294967295 (flat ls)):Nat)/\H=[]:=by
 refine Tri.free fun R HR=>?_
 have HV:=hid hv
 obtain ⟨a,c,rfl⟩:=hv.1.form
 refine ae Tryz.func80 Tryz.ntmps80 ?_
 repeat' (first|((with_reducible apply z0c (z:= .agg (tab 0 0)));kernel_rfl;(exact qcl);intro b0;(refine apk ?_))|(refine acl Tryz.func138 ?_;refine acr (zo2 _) ?_;rintro v' H' ⟨rfl,rfl⟩;refine apl ?_)|((with_reducible apply zdm);rfl;rfl;(exact atk);rw [z37,z37];exact z08.trans (congrArg some (z37 _ _).symm);exact zlb _ _;(refine apk ?_))|(refine acl Tryz.func139 ?_;refine acr (zjo _ b0 0 (by omega) _ ls HV.out) ?_;rintro v' H' ⟨rfl,rfl⟩;refine apl ?_)|refine ax0 ?_|(refine abb ?_;intro b)|refine ax1 ?_|(refine aac ?_;intro ac cc)|refine ax2 ?_|(refine ap3 ?_ ?_<;>try intro h)|apply True.intro)
 ((with_reducible apply z00);exact res_1 rfl rfl)
 exact HR.out _ [] _ _ atks ⟨by rw [show (4294967295:Nat)=inv32 0 from rfl],rfl⟩
theorem zld (r:Hp) (s n:Nat) (hs:s<4294967296) (hn:n<256):Tri Tryz.prog r 192 [.int .u32 s,.int .u8 n] [] fun w H=>w = .int .u32 (crcTake s n:Nat)/\H=[]:=by
 refine Tri.free fun R HR=>?_
 have HN:=hid hn
 have HS:=hid hs
 clear hn hs
 refine ae Tryz.func192 Tryz.ntmps192 ?_
 repeat' (first|refine ax0m ?_|(refine abb ?_;intro b)|refine ax1m ?_|(refine aac ?_;intro ac cc)|refine ax2m ?_|(refine ap3 ?_ ?_<;>try intro h)|apply True.intro)
 refine z04 (fun g t H' => ∃ j s' m:Nat,g=9 - j/\j<=8/\m=n / 2 ^ j/\s'=((bitsOf n).take j).foldl crcBit s/\(∃ G,Takes [] H' G)/\(t.length=18/\t[0]?=some (.int .u32 s')/\t[1]?=some (.int .u8 m)/\t[5]?=some (.int .i64 j))) 9
  ⟨0,s,n,rfl,by omega,by simp,rfl,⟨[],by (exact atks)⟩,rfl,rfl,rfl,rfl⟩ ?_
 rintro g t H' ⟨j,s',m,rfl,hj,hm',hs',⟨G,hp⟩,hlen,e0,e1,e5⟩
 revert e0 e1 e5;revert t;refine z0s (n:=18) ?_;intro u0 u1 u2 u3 u4 u5 u6 u7 u8 u9 u10 u11 u12 u13 u14 u15 u16 u17 e0 e1 e5;cases e0;cases e1;cases e5
 refine z01 hp ?_
 clear hp
 have hsl:s'<4294967296:=by rw [hs'];exact z8v _ _ HS.out
 by_cases hlt:j<8
 · have hm:=hm'.symm
   have hmn:m<256:=by rw [← hm];exact Nat.lt_of_le_of_lt (Nat.div_le_self _ _) HN.out
   have hm2:m / 2=n / 2 ^ (j+1):=by rw [Nat.pow_succ,← Nat.div_div_eq_div_mul,hm]
   have hlen:(bitsOf n).length=8:=by simp [bitsOf]
   have hb:(bitsOf n)[j]'(by rw [hlen];exact hlt)=(m % 2 == 1):=by simp [bitsOf,hm]
   have e1:=and1b m hmn
   have hst:((bitsOf n).take (j+1)).foldl crcBit s=crcBit s' (m % 2 == 1):=by
    rw [List.take_succ_eq_append_getElem (by rw [hlen];exact hlt),hb,List.foldl_append,← hs'];rfl
   obtain ⟨q,hq⟩ : ∃ q,(m % 2 == 1)=q:=⟨_,rfl⟩
   rw [hq] at e1 hst
   have HST:=hid hst
   have HM2:=hid hm2
   have HSL:=hid hsl
   clear hm hm' hb hm2 hlen hst hs' hq hsl
   repeat' (first|refine ax0m ?_|(refine abb ?_;intro b)|(refine acl Tryz.func217 ?_;refine acr (zny _ s' q HSL.out) ?_;rintro v' H' ⟨rfl,rfl⟩;refine apl ?_)|refine ax1m ?_|(refine aac ?_;intro ac cc)|refine ax2m ?_|(refine ap3 ?_ ?_<;>try intro h)|apply True.intro)
   exact ⟨_,by omega,j+1,_,m / 2,rfl,by omega,HM2.out,HST.out.symm,⟨_,by (exact atks)⟩,rfl,rfl,rfl,rfl⟩
 · obtain rfl:j=8:=by omega
   rw [List.take_of_length_le (by simp [bitsOf])] at hs'
   have HS2:=hid hs'
   clear hs' hm'
   repeat' (first|refine ax0m ?_|(refine abb ?_;intro b)|refine ax1m ?_|(refine aac ?_;intro ac cc)|refine ax2m ?_|(refine ap3 ?_ ?_<;>try intro h)|apply True.intro)
   ((with_reducible apply z00);exact res_1 rfl rfl)
   exact HR.out _ [] _ _ atks ⟨by rw [HS2.out];rfl,rfl⟩
theorem zgk (r:Hp) (s0:Nat) (hs0:s0<4294967296) (v:Value) (n:Nat) (l:List UInt8) (hv:Sl r 1 v n (u8s l)) :
 Tri Tryz.prog r 131 [.int .u32 s0,v] [] fun w H=>w = .int .u32 (inv32 (crcAll (inv32 s0) l):Nat)/\H=[]:=by
 refine Tri.free fun R HR=>?_
 obtain ⟨a,c,rfl⟩:=hv.form
 have hnm:=hv.2.1
 unfold maxLen at hnm
 have hln:l.length=n:=by have:=hv.1;simpa [u8s] using this
 have HLN:=hid hln
 have HV:=hid hv
 obtain ⟨q0,hq0⟩ : ∃ q0,inv32 s0=q0:=⟨_,rfl⟩
 rw [hq0] at HR
 have hq0l:q0<4294967296:=by rw [← hq0];exact z8x hs0
 have HS0:=hid hs0
 have HQ0:=hid hq0
 clear hv hln hs0 hq0
 refine ae Tryz.func131 Tryz.ntmps131 ?_
 repeat' (first|refine ax0m ?_|(refine abb ?_;intro b)|refine ax1m ?_|(refine aac ?_;intro ac cc)|refine ax2m ?_|(refine ap3 ?_ ?_<;>try intro h)|apply True.intro)
 rw [z8y s0 HS0.out,HQ0.out]
 refine z04 (fun g t H' => ∃ j s':Nat,g=n+1 - j/\j<=n/\s'=crcAll q0 (l.take j)/\(∃ G,Takes [] H' G)/\(t.length=22/\t[0]?=some (.int .u32 s')/\t[1]?=some (.slice a n c)/\t[5]?=some (.int .i64 j))) (n+1)
  ⟨0,q0,rfl,by omega,rfl,⟨[],by (exact atks)⟩,rfl,rfl,rfl,rfl⟩ ?_
 rintro g t H' ⟨j,s,rfl,hj,hs,⟨G,hp⟩,hlen,e0,e1,e5⟩
 revert e0 e1 e5;revert t;refine z0s (n:=22) ?_;intro u0 u1 u2 u3 u4 u5 u6 u7 u8 u9 u10 u11 u12 u13 u14 u15 u16 u17 u18 u19 u20 u21 e0 e1 e5;cases e0;cases e1;cases e5
 refine z01 hp ?_
 clear hp
 have hsl:s<4294967296:=by rw [hs];exact z3x _ _ hq0l
 by_cases hlt:j<n
 · have hjx:j<l.length:=by rw [HLN.out];exact hlt
   obtain ⟨b3,off3,u,rfl,hu,hc3⟩:=HV.out.at1 hlt
   obtain ⟨x,hx⟩ : ∃ x:UInt8,l[j]=x:=⟨_,rfl⟩
   obtain rfl:u = .int .u8 x.toNat:=by rw [u8s,List.getElem?_map,List.getElem?_eq_getElem hjx,hx] at hu;simpa using hu.symm
   obtain ⟨m,hm⟩ : ∃ m,x.toNat=m:=⟨_,rfl⟩
   have hml:m<256:=by rw [← hm];exact x.toNat_lt
   have hst:crcAll q0 (l.take (j+1))=crcTake s m:=by
    rw [List.take_succ_eq_append_getElem hjx,hx,zay,← hs,← hm];simp [crcAll]
   rw [hm] at hc3
   have hc:=hc3 []
   have HST:=hid hst
   clear hu hx hm hst hc3 hs
   repeat' (first|refine ax0m ?_|(refine abb ?_;intro b)|(refine acl Tryz.func192 ?_;refine acr (zld _ s m hsl hml) ?_;rintro v' H' ⟨rfl,rfl⟩;refine apl ?_)|refine ax1m ?_|(refine aac ?_;intro ac cc)|refine ax2m ?_|(refine ap3 ?_ ?_<;>try intro h)|apply True.intro)
   exact ⟨_,by omega,j+1,_,rfl,by omega,HST.out.symm,⟨_,by (exact atks)⟩,rfl,rfl,rfl,rfl⟩
 · obtain rfl:j=n:=by omega
   rw [List.take_of_length_le (by rw [HLN.out];omega)] at hs
   have HS2:=hid hs
   clear hs
   repeat' (first|refine ax0m ?_|(refine abb ?_;intro b)|refine ax1m ?_|(refine aac ?_;intro ac cc)|refine ax2m ?_|(refine ap3 ?_ ?_<;>try intro h)|apply True.intro)
   ((with_reducible apply z00);exact res_1 rfl rfl)
   exact HR.out _ [] _ _ atks ⟨by rw [← HS2.out];exact congrArg _ (z8y s hsl),rfl⟩
theorem zck (r:Hp) (v:Value) (n:Nat) (l:List UInt8) (hv:Sl r 1 v n (u8s l)) :
 Tri Tryz.prog r 63 [v] [] fun w H=>w = .int .u32 (inv32 (crcAll 4294967295 l):Nat)/\H=[]:=by
 refine Tri.free fun R HR=>?_
 have HV:=hid hv
 obtain ⟨a,c,rfl⟩:=hv.form
 refine ae Tryz.func63 Tryz.ntmps63 ?_
 repeat' (first|refine ax0m ?_|(refine abb ?_;intro b)|(refine acl Tryz.func131 ?_;refine acr (zgk _ 0 (by omega) _ n l HV.out) ?_;rintro v' H' ⟨rfl,rfl⟩;refine apl ?_)|refine ax1m ?_|(refine aac ?_;intro ac cc)|refine ax2m ?_|(refine ap3 ?_ ?_<;>try intro h)|apply True.intro)
 ((with_reducible apply z00);exact res_1 rfl rfl)
 exact HR.out _ [] _ _ atks ⟨by rw [show (4294967295:Nat)=inv32 0 from rfl],rfl⟩
end Go.Proofs.YtohpeoakdgckfaaGreat
