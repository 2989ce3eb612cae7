/- wire: septets, fits, the Writer: their contracts. wire.Writer.Number: its contract. slices.Clone of bytes; wire.Writer.Fixed, Text, Bytes: their contracts. -/
import Derived.Test.YtohpeoakdgckfaaGreatAp
import Derived.Test.YtohpeoakdgckfaaGreatIdx
import Derived.Test.YtohpeoakdgckfaaGreatBits
import Derived.WalkSpells
import Derived.WalkLawsBesides
import Derived.ProofKit
set_option maxHeartbeats 1000000
set_option maxRecDepth 10000
namespace Go.Proofs.YtohpeoakdgckfaaGreat
open Go.RowKit Sx
attribute [local go_sem] Oper.semAt_some
def badNum (n:Int):Bool:=decide (n<0) || decide (1099511627776<n)
theorem zki (r:Hp) (n:Int):Tri Tryz.prog r 142 [.int .i64 n] [] fun v H=>v = .bool (badNum n)/\H=[]:=by
 by_cases h0:n<0
 all_goals
  refine ae Tryz.func142 Tryz.ntmps142 ?_
  repeat' (first|refine ax0m ?_|(refine abb ?_;intro b)|refine ax1m ?_|(refine aac ?_;intro ac cc)|refine ax2m ?_|(refine ap3 ?_ ?_<;>try intro h)|apply True.intro)
  ((with_reducible apply z00);exact res_1 rfl rfl)
  exact ⟨by simp [badNum,h0],rfl⟩
theorem or128 (m:Nat):bits BinOp.or IntKind.u8 ((m:Int) % 256) 128=((m % 128+128:Nat):Int):=by
 have h : ∀ a:Fin 256,bits BinOp.or IntKind.u8 ((a.val:Nat):Int) 128=((a.val % 128+128:Nat):Int):=by decide +kernel
 have h1:=h ⟨m % 256,Nat.mod_lt _ (by omega)⟩
 simp only [Int.natCast_emod] at h1
 rw [show ((256:Nat):Int)=256 from rfl] at h1
 rw [h1]
 omega
def u8v (b:UInt8):List Value:=[.int .u8 b.toNat]
theorem zhb (r:Hp) (n:Nat) (hn:n<=maxNum) (Bx:Nat):Seq Tryz.prog r 198 [.pointer (some ⟨Bx,0,none⟩)] u8v (septs n) [pt Bx (.cells [.int .i64 n].toArray 3 (0,0))] []:=by
 intro k J Jx hY
 refine Tri.free fun R HR=>?_
 have HY:=hid hY
 have HN:=hid hn
 clear hY hn
 refine ae Tryz.func198 Tryz.ntmps198 ?_
 repeat' (first|refine ax0m ?_|(refine abb ?_;intro b)|refine ax1m ?_|(refine aac ?_;intro ac cc)|refine ax2m ?_|(refine ap3 ?_ ?_<;>try intro h)|apply True.intro)
 refine z04 (fun g t H' => ∃ j m:Nat,g=(septs n).length - j/\j<(septs n).length/\m<=maxNum/\septs m=(septs n).drop j/\H'=[J j,pt Bx (.cells [.int .i64 m].toArray 3 (0,0))]/\(t.length=17/\t[0]?=some (.func (.yield k) #[] #[])/\t[1]?=some (.pointer (some ⟨Bx,0,none⟩)))) (septs n).length
  ⟨0,n,rfl,List.length_pos_iff.2 (z8u n),HN.out,List.drop_zero.symm,rfl,rfl,rfl,rfl⟩ ?_
 rintro g t H' ⟨j,m,rfl,hj,hm,hd,rfl,hlen,e0,e1⟩
 revert e0 e1;revert t;refine z0s (n:=17) ?_;intro u0 u1 u2 u3 u4 u5 u6 u7 u8 u9 u10 u11 u12 u13 u14 u15 u16 e0 e1;cases e0;cases e1
 have HD:=hid hd
 have HM:=hid hm
 have HJ:=hid hj
 clear hd hm
 by_cases hs:m<128
 · have he:(septs n)[j]?=some (UInt8.ofNat m)/\(septs n).length=j+1:=by
    have h1:=HD.out
    rw [z1e hs] at h1
    have h2:=congrArg (fun l=>l[0]?) h1
    have h3:=congrArg List.length h1
    simp at h2 h3
    exact ⟨h2.symm,by omega⟩
   rw [List.getElem?_eq_getElem hj] at he
   have hy:=HY.out j hj
   rw [Option.some.inj he.1,show u8v (UInt8.ofNat m)=[.int .u8 m] from by simp [u8v];omega] at hy
   have HL:=hid he.2
   have HY1:=hid hy
   clear hy he hj
   repeat' (first|refine ax0m ?_|(refine abb ?_;intro b)|((with_reducible apply z2o);rfl;exact (HY1.out);rfl;(exact atk);all_goals (refine apk ?_))|refine ax1m ?_|(refine aac ?_;intro ac cc)|refine ax2m ?_|(refine ap3 ?_ ?_<;>try intro h)|apply True.intro)
   · ((with_reducible apply z1k);exact res_0 rfl)
     exact HR.out _ [pt Bx _] _ [J (j+1)] atks (.inl (by rw [HL.out]))
   · ((with_reducible apply z1k);exact res_0 rfl)
     exact HR.out _ [] _ _ atks (.inr ⟨j,_,HJ.out,rfl⟩)
 · have hob:=or128 m
   have he:(septs n)[j]?=some (UInt8.ofNat (m % 128+128))/\(septs n).drop (j+1)=septs (m / 128):=by
    have h1:=HD.out
    rw [z3w hs] at h1
    have h2:=zky h1
    exact ⟨h2.1,h2.2.1⟩
   rw [List.getElem?_eq_getElem hj] at he
   have hkk:j+1<(septs n).length:=by
    have h1:=congrArg List.length he.2
    have h2:=List.length_pos_iff.2 (z8u (m / 128))
    simp at h1
    omega
   have hy:=HY.out j hj
   have hu:u8v (UInt8.ofNat (m % 128+128))=[.int .u8 ((m:Int) % 128+128)]:=by
    unfold u8v
    rw [show (UInt8.ofNat (m % 128+128)).toNat=m % 128+128 from by simp;omega]
    simp
   rw [Option.some.inj he.1,hu] at hy
   have HL:=hid he.2
   have HY1:=hid hy
   clear hy he hu hj
   repeat' (first|refine ax0m ?_|(refine abb ?_;intro b)|((with_reducible apply z2o);rfl;exact (HY1.out);rfl;(exact atk);all_goals (refine apk ?_))|refine ax1m ?_|(refine aac ?_;intro ac cc)|refine ax2m ?_|(refine ap3 ?_ ?_<;>try intro h)|apply True.intro)
   · exact ⟨_,by omega,j+1,m / 128,rfl,hkk,Nat.le_trans (Nat.div_le_self _ _) HM.out,HL.out.symm,by simp,rfl,rfl,rfl⟩
   · ((with_reducible apply z00);exact res_0 rfl)
     exact HR.out _ [] _ _ atks (.inr ⟨j,_,HJ.out,rfl⟩)
theorem zhc (r:Hp) (n:Int):Tri Tryz.prog r 140 [.int .i64 n] [] fun v H => ∃ b,v = .func (.func 198) #[] #[.pointer (some ⟨b,0,none⟩)]/\H=[pt b (.cells [.int .i64 n].toArray 3 (0,0))]:=by
 refine ae Tryz.func140 Tryz.ntmps140 ?_
 repeat' (first|refine ax0m ?_|(refine abb ?_;intro b)|refine ax1m ?_|(refine aac ?_;intro ac cc)|refine ax2m ?_|(refine ap3 ?_ ?_<;>try intro h)|apply True.intro)
 ((with_reducible apply z00);exact res_1 rfl rfl)
 exact ⟨_,rfl,rfl⟩
theorem zj4 (r:Hp) (v:Value) (n:Nat) (xs:List Int) (hv:Sl r 1 v n (ints xs)):Tri Tryz.prog r 82 [v] [] fun w H=>w = .bool (!xs.any badNum)/\H=[]:=by
 have hn:xs.length=n:=by have:=hv.1;simpa [ints] using this
 have HC:=hid (zne r v n (ints xs) 142 [] [] (fun k=>badNum (xs.getD k 0)) hv (z2h Tryz.func142 (by kernel_rfl) rfl) (fun k u hk hu=>by
  rw [zi0 (by omega)] at hu
  cases hu
  rw [show xs.getD k 0=xs[k] from by simp [List.getD_eq_getElem?_getD,show k<xs.length by omega]]
  exact zki r _))
 have he:(List.range n).any (fun k=>badNum (xs.getD k 0))=xs.any badNum:=by
  rw [Bool.eq_iff_iff,List.any_eq_true,List.any_eq_true]
  constructor
  · rintro ⟨k,hk,hb⟩
    have hk':k<xs.length:=by rw [hn];simpa using hk
    rw [show xs.getD k 0=xs[k] from by simp [List.getD_eq_getElem?_getD,hk']] at hb
    exact ⟨_,List.getElem_mem hk',hb⟩
  · rintro ⟨x,hx,hb⟩
    obtain ⟨k,hk,rfl⟩:=List.getElem_of_mem hx
    exact ⟨k,by simp;omega,by rw [show xs.getD k 0=xs[k] from by simp [List.getD_eq_getElem?_getD,hk]];exact hb⟩
 rw [he] at HC
 obtain ⟨a,c,rfl⟩:=hv.form
 clear hv hn he
 refine ae Tryz.func82 Tryz.ntmps82 ?_
 repeat' (first|refine ax0m ?_|(refine abb ?_;intro b)|(refine acl Tryz.func141 ?_;refine acr (HC.out) ?_;rintro v' H' ⟨rfl,rfl⟩;refine apl ?_)|refine ax1m ?_|(refine aac ?_;intro ac cc)|refine ax2m ?_|(refine ap3 ?_ ?_<;>try intro h)|apply True.intro)
 ((with_reducible apply z00);exact res_1 rfl rfl)
 exact ⟨rfl,rfl⟩
def wri (v:Value) (bad:Bool):Obj:= .cells [v,.bool bad].toArray 70 (0,0)
def numsOf (xs:List Int):List UInt8:=xs.flatMap fun x=>septs x.toNat
theorem zkj {xs:List Int} (h : ∀ k (h:k<xs.length),∃ m:Nat,xs[k]=(m:Int)/\m<=maxNum) (k:Nat):(numsOf (xs.take k)).length<=6*k:=by
 induction k with
 | zero=>simp [numsOf]
 | succ k ih =>
  by_cases hk:k<xs.length
  · rw [List.take_succ_eq_append_getElem hk]
    obtain ⟨m,hm,hmx⟩:=h k hk
    have:=z09 hmx
    have e:numsOf (xs.take k++[xs[k]])=numsOf (xs.take k)++septs m:=by rw [hm];simp [numsOf]
    rw [e,List.length_append]
    omega
  · rw [List.take_of_length_le (by omega)] at ih ⊢
    omega
attribute [local go_sem] Oper.semAt_some
theorem zbm (r:Hp) (g:Nat) (v:Value) (bad:Bool) (l:List UInt8) (nv:Value) (n:Nat) (xs:List Int) (hs:Sl r 1 nv n (ints xs)) (hl:l.length+6*n<=70000000000000) :
 Tri Tryz.prog r 81 [.pointer (some ⟨g,0,none⟩),nv] [pt g (wri v bad),RowC 5 1 v l.length (u8s l)] fun _ H => ∃ v' l',l'=(if bad || xs.any badNum then l else l++numsOf xs) /\
  H=[pt g (wri v' (bad || xs.any badNum)),RowC 5 1 v' l'.length (u8s l')]:=by
 refine Tri.free fun R HR=>?_
 obtain ⟨q,hq⟩ : ∃ q,xs.any badNum=q:=⟨_,rfl⟩
 have HF:=hid (fun r' (hr:sub r r')=>zj4 r' nv n xs (hs.mono hr))
 rw [hq] at HF HR
 have hlx:xs.length=n:=by have:=hs.1;simpa [ints] using this
 have HQ:=hid hq
 have HX:=hid hlx
 have HL:=hid hl
 have HS:=hid hs
 obtain ⟨a,c,rfl⟩:=hs.form
 have hn:=HS.out.2.1
 unfold maxLen at hn
 clear hs hl hq hlx
 unfold wri at *
 cases bad
 · cases q
   · refine ae Tryz.func81 Tryz.ntmps81 ?_
     repeat' (first|refine ax0m ?_|(refine abb ?_;intro b)|refine ax1m ?_|(refine aac ?_;intro ac cc)|refine ax2m ?_|(refine ap3 ?_ ?_<;>try intro h)|apply True.intro)
     ((with_reducible apply z02 (id:=2) 10 [(0,true),(1,true),(2,true),(3,true),(4,false),(5,true),(6,true),(7,false),(8,true),(9,true)] [(10,false),(11,false),(12,false)] [(b,.cells [.pointer (some ⟨g,0,none⟩)].toArray 153 (0,0))]);kernel_rfl;(exact atks);kernel_rfl;intro r' hl')
     have hb0:=hl'.2 _ List.mem_cons_self
     have HF':=hid (HF.out r' hl'.1)
     repeat' (first|refine ax0m ?_|(refine abb ?_;intro b)|(refine acl Tryz.func82 ?_;refine acr (HF'.out) ?_;rintro v' H' ⟨rfl,rfl⟩;refine apl ?_)|refine ax1m ?_|(refine aac ?_;intro ac cc)|refine ax2m ?_|(refine ap3 ?_ ?_<;>try intro h)|apply True.intro)
     clear hb0 hl' HF'
     refine z04 (fun gg t H' => ∃ (k:Nat) (v':Value),gg=n+1 - k/\k<=n/\Takes [pt b (.cells [.pointer (some ⟨g,0,none⟩)].toArray 153 (0,0)),pt g (.cells [v',.bool false].toArray 70 (0,0)),
      RowC 5 1 v' (l++numsOf (xs.take k)).length (u8s (l++numsOf (xs.take k)))] H' []/\(t.length=45/\t[0]?=some (.pointer (some ⟨g,0,none⟩))/\t[1]?=some (.slice a n c)/\t[2]?=some (.pointer (some ⟨b,0,none⟩))/\t[25]?=some (.slice a n c)/\t[26]?=some (.int .i64 n)/\t[27]?=some (.int .i64 k))) (n+1)
      ⟨0,v,rfl,Nat.zero_le _,by simp [numsOf];(exact atks),rfl,rfl,rfl,rfl,rfl,rfl,rfl⟩ ?_
     rintro gg t H' ⟨k,v',rfl,hk,hp,hlen,e0,e1,e2,e25,e26,e27⟩
     revert e0 e1 e2 e25 e26 e27;revert t;refine z0s (n:=45) ?_;intro u0 u1 u2 u3 u4 u5 u6 u7 u8 u9 u10 u11 u12 u13 u14 u15 u16 u17 u18 u19 u20 u21 u22 u23 u24 u25 u26 u27 u28 u29 u30 u31 u32 u33 u34 u35 u36 u37 u38 u39 u40 u41 u42 u43 u44 e0 e1 e2 e25 e26 e27;cases e0;cases e1;cases e2;cases e25;cases e26;cases e27
     refine z6g hp ?_
     clear hp
     by_cases hlt:k<n
     · obtain ⟨b2,off,u,rfl,hu,hc⟩:=HS.out.at1 hlt
       have hkx:k<xs.length:=by rw [HX.out];exact hlt
       rw [zi0 hkx] at hu
       obtain rfl:=Option.some.inj hu
       obtain ⟨m,hm,hmx⟩ : ∃ m:Nat,xs[k]=(m:Int)/\m<=maxNum:=by
        have h2:=List.any_eq_false.1 HQ.out xs[k] (List.getElem_mem hkx)
        simp [badNum] at h2
        exact ⟨xs[k].toNat,by omega,by unfold maxNum;omega⟩
       have htk:numsOf (xs.take (k+1))=numsOf (xs.take k)++septs m:=by rw [List.take_succ_eq_append_getElem hkx,hm];simp [numsOf]
       have hlen:(l++numsOf (xs.take k)).length+6<=70000000000000:=by
        have h1:=zkj (xs:=xs) (fun i hi=>by
         have h2:=List.any_eq_false.1 HQ.out xs[i] (List.getElem_mem hi)
         simp [badNum] at h2
         exact ⟨xs[i].toNat,by omega,by unfold maxNum;omega⟩) k
        have h3:=HL.out
        rw [List.length_append];omega
       rw [hm] at hc
       have hc':=hc
       have HMX:=hid hmx
       have HTK:=hid htk
       have HLEN:=hid hlen
       clear hu hm hmx htk hlen hc
       have hc:=fun H=>hc' H
       have HC:=hid hc'
       clear hc hc'
       obtain ⟨l2,hl2⟩ : ∃ l2,l++numsOf (xs.take k)=l2:=⟨_,rfl⟩
       rw [hl2] at HLEN ⊢
       have HL2:=hid hl2
       clear hl2
       have hc:=HC.out [pt b (.cells [.pointer (some ⟨g,0,none⟩)].toArray 153 (0,0)),pt g (.cells [v',.bool false].toArray 70 (0,0)),RowC 5 1 v' l2.length (u8s l2)]
       repeat' (first|refine ax0m ?_|(refine abb ?_;intro b)|(refine acl Tryz.func140 ?_;refine acr (zhc _ _) ?_;rintro v' H' ⟨b3,rfl,rfl⟩;refine apl ?_)|refine ax1m ?_|(refine aac ?_;intro ac cc)|refine ax2m ?_|(refine ap3 ?_ ?_<;>try intro h)|apply True.intro)
       clear hc
       have hs6:=z09 HMX.out
       refine z5x rfl (z2h Tryz.func198 (by kernel_rfl) rfl) (zhb r m HMX.out b3) atks (fun _=>rfl)
        (fun j H => ∃ v',H=[pt b (.cells [.pointer (some ⟨g,0,none⟩)].toArray 153 (0,0)),pt g (.cells [v',.bool false].toArray 70 (0,0)),RowC 5 1 v' (l2++(septs m).take j).length (u8s (l2++(septs m).take j))])
        (fun _ _ _=>False) ⟨v',by simp⟩ ?_ ?_ (fun _ _ _ _ h=>h.elim)
       · rintro k3 j hj H ⟨v3,rfl⟩
         obtain ⟨w,hw⟩ : ∃ w,(septs m)[j]=w:=⟨_,rfl⟩
         rw [hw,show u8v w=[.int .u8 w.toNat] from rfl,pars1]
         have htj:(septs m).take (j+1)=(septs m).take j++[w]:=by rw [List.take_succ_eq_append_getElem hj,hw]
         have hl3:(l2++(septs m).take j).length+1<=70000000000000:=by
          have:=HLEN.out
          simp;omega
         have HTJ:=hid htj
         have HL3:=hid hl3
         clear htj hl3 hw
         obtain ⟨l3,hl3⟩ : ∃ l3,l2++(septs m).take j=l3:=⟨_,rfl⟩
         rw [hl3] at HL3 ⊢
         have HL4:=hid hl3
         clear hl3
         (refine apk ?_)
         repeat' (first|refine ax0m ?_|(refine abb ?_;intro b)|refine ax1m ?_|(refine aac ?_;intro ac cc)|refine ax2m ?_|(refine ap3 ?_ ?_<;>try intro h)|apply True.intro)
         ((with_reducible apply z02 (id:=9) 8 [(0,true),(1,true),(2,true),(3,true),(4,true),(5,true),(6,false),(7,false)] [(8,false),(9,false),(10,false)] [(b,.cells [.pointer (some ⟨g,0,none⟩)].toArray 153 (0,0)),(g,.cells [v3,.bool false].toArray 70 (0,0))]);kernel_rfl;(exact atks);kernel_rfl;intro r' hl')
         have hb0:=hl'.2 _ List.mem_cons_self
         have hb1:=hl'.2 _ (List.mem_cons_of_mem _ List.mem_cons_self)
         repeat' (first|refine ax0m ?_|(refine abb ?_;intro b)|((with_reducible apply z0t (E:=5) (z:= .int .u8 0) (by_:=1));kernel_rfl;kernel_rfl;rfl;rfl;rfl;intro bz;(refine apk ?_))|((with_reducible apply z0d (E:=5) (z:= .int .u8 0) (by_:=1));kernel_rfl;kernel_rfl;rfl;rfl;rfl;(exact atk);(exact atk);rfl;(have:=HL3.out;omega);intro a' c';(refine apk ?_))|refine ax1m ?_|(refine aac ?_;intro ac cc)|refine ax2m ?_|(refine ap3 ?_ ?_<;>try intro h)|apply True.intro)
         refine ⟨.slice a' (l3.length+1) c',?_⟩
         rw [HTJ.out,← List.append_assoc,HL4.out]
         simp [u8s]
       · rintro H ⟨v3,rfl⟩
         repeat' (first|refine ax0m ?_|(refine abb ?_;intro b)|refine ax1m ?_|(refine aac ?_;intro ac cc)|refine ax2m ?_|(refine ap3 ?_ ?_<;>try intro h)|apply True.intro)
         refine ⟨_,by omega,k+1,v3,rfl,by omega,?_,rfl,rfl,rfl,rfl,rfl,rfl,rfl⟩
         rw [List.take_length,HTK.out,← List.append_assoc,HL2.out,List.nil_append]
         (exact atks)
     · rw [List.take_of_length_le (by rw [HX.out];omega)]
       repeat' (first|refine ax0m ?_|(refine abb ?_;intro b)|refine ax1m ?_|(refine aac ?_;intro ac cc)|refine ax2m ?_|(refine ap3 ?_ ?_<;>try intro h)|apply True.intro)
       ((with_reducible apply z1k);exact res_0 rfl)
       exact HR.out _ [pt b _] _ _ atks ⟨_,_,rfl,rfl⟩
   · refine ae Tryz.func81 Tryz.ntmps81 ?_
     repeat' (first|refine ax0m ?_|(refine abb ?_;intro b)|refine ax1m ?_|(refine aac ?_;intro ac cc)|refine ax2m ?_|(refine ap3 ?_ ?_<;>try intro h)|apply True.intro)
     ((with_reducible apply z02 (id:=2) 10 [(0,true),(1,true),(2,true),(3,true),(4,false),(5,true),(6,true),(7,false),(8,true),(9,true)] [(10,false),(11,false),(12,false)] [(b,.cells [.pointer (some ⟨g,0,none⟩)].toArray 153 (0,0))]);kernel_rfl;(exact atks);kernel_rfl;intro r' hl')
     have hb0:=hl'.2 _ List.mem_cons_self
     have HF':=hid (HF.out r' hl'.1)
     repeat' (first|refine ax0m ?_|(refine abb ?_;intro b)|(refine acl Tryz.func82 ?_;refine acr (HF'.out) ?_;rintro v' H' ⟨rfl,rfl⟩;refine apl ?_)|refine ax1m ?_|(refine aac ?_;intro ac cc)|refine ax2m ?_|(refine ap3 ?_ ?_<;>try intro h)|apply True.intro)
     ((with_reducible apply z00);exact res_0 rfl)
     exact HR.out _ [pt b _] _ _ atks ⟨_,_,rfl,rfl⟩
 · refine ae Tryz.func81 Tryz.ntmps81 ?_
   repeat' (first|refine ax0m ?_|(refine abb ?_;intro b)|refine ax1m ?_|(refine aac ?_;intro ac cc)|refine ax2m ?_|(refine ap3 ?_ ?_<;>try intro h)|apply True.intro)
   ((with_reducible apply z02 (id:=2) 10 [(0,true),(1,true),(2,true),(3,true),(4,false),(5,true),(6,true),(7,false),(8,true),(9,true)] [(10,false),(11,false),(12,false)] [(b,.cells [.pointer (some ⟨g,0,none⟩)].toArray 153 (0,0))]);kernel_rfl;(exact atks);kernel_rfl;intro r' hl')
   have hb0:=hl'.2 _ List.mem_cons_self
   have HF':=hid (HF.out r' hl'.1)
   repeat' (first|refine ax0m ?_|(refine abb ?_;intro b)|(refine acl Tryz.func82 ?_;refine acr (HF'.out) ?_;rintro v' H' ⟨rfl,rfl⟩;refine apl ?_)|refine ax1m ?_|(refine aac ?_;intro ac cc)|refine ax2m ?_|(refine ap3 ?_ ?_<;>try intro h)|apply True.intro)
   ((with_reducible apply z00);exact res_0 rfl)
   exact HR.out _ [pt b _] _ _ atks ⟨_,_,rfl,rfl⟩
attribute [local go_sem] Oper.semAt_some
abbrev U8R (v:Value) (l:List UInt8):Ch:=RowC 5 1 v l.length (u8s l)
abbrev U8S (r:Hp) (v:Value) (l:List UInt8):Prop:=Sl r 1 v l.length (u8s l)
theorem z1y (l:List UInt8):(u8s l).all one?=true:=by simp [u8s,List.all_eq_true,one?]
theorem Sl.news {r:Hp} {n c:Nat} {a:Addr} {xs:List Value} (h:Sl r 1 (.slice (some a) n c) n xs) (H:List Ch) : ∀ j u,xs[j]?=some u->Rd1 r H (a.add j) u:=by
 intro j u hu
 obtain ⟨hj,rfl⟩:=List.getElem?_eq_some_iff.1 hu
 have hjn:j<n:=by have:=h.1;omega
 obtain ⟨b,off,u',e,h1,h2⟩:=h.at1 hjn
 cases e
 rw [z1g]
 rw [List.getElem?_eq_getElem hj] at h1
 cases h1
 exact h2 H
theorem z2u (r:Hp) (v:Value) (l:List UInt8) (hv:U8S r v l) (hl:l.length<=100000000000000):Tri Tryz.prog r 73 [v] [] fun w H => ∃ a c,w = .slice a l.length c/\H=[U8R w l]:=by
 have hn:=fun (a:Option Addr) (n c:Nat) (w:World)=>Lib.run_eql_slice_nil (P:=Tryz.prog) w 26 _ a n c 0 0 Tryz.underlying26
 have hall:(∃ ad n c,v = .slice (some ad) n c)\/(v = .slice none 0 0/\l=[]):=by
  rcases hv.2.2 with ⟨⟨a,rfl⟩,h0⟩ | ⟨b,off,cap,c,E,fz,rfl,h1,h2,h3⟩
  · cases a with
    | none=>exact .inr ⟨rfl,by cases l<;>simp_all⟩
    | some ad=>exact .inl ⟨ad,_,_,rfl⟩
  · exact .inl ⟨_,_,_,rfl⟩
 rcases hall with ⟨ad,nn,cap,rfl⟩ | ⟨rfl,rfl⟩
 rotate_left
 · refine zc7 (RowC.nil 5 1) ?_
   refine ae Tryz.func73 Tryz.ntmps73 ?_
   repeat' (first|refine ax0m ?_|(refine abb ?_;intro b)|refine ax1m ?_|(refine aac ?_;intro ac cc)|refine ax2m ?_|(refine ap3 ?_ ?_<;>try intro h)|apply True.intro)
   ((with_reducible apply z00);exact res_1 rfl rfl)
   exact ⟨_,_,rfl,rfl⟩
 · obtain ⟨a0,c0,e0⟩:=hv.form
   injection e0 with e1 e2 e3
   subst e2
   clear e1 e3
   have HV:=hid hv
   have HL:=hid hl
   clear hv hl
   by_cases h0:l=[]
   · subst h0
     refine ae Tryz.func73 Tryz.ntmps73 ?_
     repeat' (first|refine ax0m ?_|(refine abb ?_;intro b)|((with_reducible apply zl0 (E:=5) (z:= .int .u8 0) (sz:=1) (by_:=1));kernel_rfl;kernel_rfl;intro bz;(refine apk ?_))|((with_reducible apply zc6 (A:=pt _ _) (B:=U8R (.slice (some ⟨bz,0,none⟩) 0 0) []));(exact atk);(intro h e;exact RowC.of_pt (Nat.le_refl _) (Nat.zero_le _) rfl h e);(with_reducible apply z7k (E:=5) (z:= .int .u8 0) (sz:=1) (by_:=1));kernel_rfl;kernel_rfl;rfl;rfl;(exact atk);intro a' c' e;clear e;(refine apk ?_))|refine ax1m ?_|(refine aac ?_;intro ac cc)|refine ax2m ?_|(refine ap3 ?_ ?_<;>try intro h)|apply True.intro)
     ((with_reducible apply z00);exact res_1 rfl rfl)
     exact ⟨_,_,rfl,rfl⟩
   · refine ae Tryz.func73 Tryz.ntmps73 ?_
     repeat' (first|refine ax0m ?_|(refine abb ?_;intro b)|((with_reducible apply zl0 (E:=5) (z:= .int .u8 0) (sz:=1) (by_:=1));kernel_rfl;kernel_rfl;intro bz;(refine apk ?_))|((with_reducible apply zc6 (A:=pt _ _) (B:=U8R (.slice (some ⟨bz,0,none⟩) 0 0) []));(exact atk);(intro h e;exact RowC.of_pt (Nat.le_refl _) (Nat.zero_le _) rfl h e);(with_reducible apply z4v (E:=5) (z:= .int .u8 0) (sz:=1) (by_:=1) (news:=u8s l));kernel_rfl;kernel_rfl;rfl;rfl;rfl;rfl;(exact atk);exact (by simpa using HV.out.1);exact Sl.news HV.out _;exact z1y _;(have:=HL.out;unfold maxLen;simp;omega);(have:=HL.out;simp;omega);intro a' c';(refine apk ?_))|refine ax1m ?_|(refine aac ?_;intro ac cc)|refine ax2m ?_|(refine ap3 ?_ ?_<;>try intro h)|apply True.intro)
     ((with_reducible apply z00);exact res_1 rfl rfl)
     exact ⟨a',c',by simp,by simp [u8s,U8R]⟩
def rev32 (n:Nat):Nat:=ofBytes (n / 16777216) (n / 65536 % 256) (n / 256 % 256) (n % 256)
theorem zrq (r:Hp) (n:Nat) (hn:n<4294967296):Tri Tryz.prog r 148 [.int .u32 n] [] fun w H=>w = .int .u32 (rev32 n)/\H=[]:=by
 have hm : ∀ a:Nat,(a &&& 16711935)<4294967296:=fun a=>Nat.lt_of_le_of_lt Nat.and_le_right (by omega)
 obtain ⟨b0,h0⟩ : ∃ b0,n % 256=b0:=⟨_,rfl⟩
 obtain ⟨b1,h1⟩ : ∃ b1,n / 256 % 256=b1:=⟨_,rfl⟩
 obtain ⟨b2,h2⟩ : ∃ b2,n / 65536 % 256=b2:=⟨_,rfl⟩
 obtain ⟨b3,h3⟩ : ∃ b3,n / 16777216=b3:=⟨_,rfl⟩
 have hnb:n=ofBytes b0 b1 b2 b3:=by rw [← h0,← h1,← h2,← h3];exact (zg9 n hn).symm
 have k1:bits .or .u32 (bits .and .u32 ((n:Int) / 256) 16711935) (bits .and .u32 (n:Int) 16711935*256 % 4294967296)=((ofBytes b1 b0 b3 b2:Nat):Int):=by
  have e1:=(zdk (n / 256) 16711935 (by omega) (by omega)).1
  have e2:=(zdk n 16711935 hn (by omega)).1
  have e3:(n &&& 16711935)*256<4294967296:=by rw [zc4];omega
  have e4:=(zdk (n / 256 &&& 16711935) ((n &&& 16711935)*256) (hm _) e3).2
  rw [show ((16711935:Nat):Int)=16711935 from rfl] at e1 e2
  rw [Int.natCast_ediv] at e1
  rw [show ((256:Nat):Int)=256 from rfl] at e1
  rw [e1,e2,show (((n &&& 16711935:Nat):Int)*256 % 4294967296)=(((n &&& 16711935)*256:Nat):Int) by omega,e4,hnb,zkv b0 b1 b2 b3 (by omega) (by omega) (by omega) (by omega)]
 have k2:bits .or .u32 (((ofBytes b1 b0 b3 b2:Nat):Int) / 65536) (((ofBytes b1 b0 b3 b2:Nat):Int)*65536 % 4294967296)=((rev32 n:Nat):Int):=by
  have hb:ofBytes b1 b0 b3 b2<4294967296:=by unfold ofBytes;omega
  have e4:=(zdk (ofBytes b1 b0 b3 b2 / 65536) (ofBytes b1 b0 b3 b2*65536 % 4294967296) (by omega) (by omega)).2
  rw [zjk b0 b1 b2 b3 (by omega) (by omega) (by omega) (by omega)] at e4
  rw [show (((ofBytes b1 b0 b3 b2:Nat):Int) / 65536)=((ofBytes b1 b0 b3 b2 / 65536:Nat):Int) by omega,show (((ofBytes b1 b0 b3 b2:Nat):Int)*65536 % 4294967296)=((ofBytes b1 b0 b3 b2*65536 % 4294967296:Nat):Int) by omega,e4]
  unfold rev32;rw [h0,h1,h2,h3]
 have K:=hid (And.intro k1 k2)
 clear k1 k2 hm h0 h1 h2 h3 hnb
 refine ae Tryz.func148 Tryz.ntmps148 ?_
 repeat' (first|refine ax0m ?_|(refine abb ?_;intro b)|refine ax1m ?_|(refine aac ?_;intro ac cc)|refine ax2m ?_|(refine ap3 ?_ ?_<;>try intro h)|apply True.intro)
 ((with_reducible apply z00);exact res_1 rfl rfl)
 exact ⟨by rw [K.out.1,K.out.2],rfl⟩
def kk:Nat->Int
 | 0=>24
 | 1=>16
 | 2=>8
 | 3=>0
 | _ => -8
theorem zp4 (n:Nat) (hn:n<4294967296):(((rev32 n:Nat):Int) / 16777216 % 256=(UInt8.ofNat n).toNat/\((rev32 n:Nat):Int) / 65536 % 256=(UInt8.ofNat (n / 256)).toNat)/\((rev32 n:Nat):Int) / 256 % 256=(UInt8.ofNat (n / 65536)).toNat/\((rev32 n:Nat):Int) % 256=(UInt8.ofNat (n / 16777216)).toNat:=by
 have h : ∀ x:Nat,(UInt8.ofNat x).toNat=x % 256:=fun x=>by simp
 rw [h,h,h,h]
 obtain ⟨b0,h0⟩ : ∃ b0,n % 256=b0:=⟨_,rfl⟩
 obtain ⟨b1,h1⟩ : ∃ b1,n / 256 % 256=b1:=⟨_,rfl⟩
 obtain ⟨b2,h2⟩ : ∃ b2,n / 65536 % 256=b2:=⟨_,rfl⟩
 obtain ⟨b3,h3⟩ : ∃ b3,n / 16777216=b3:=⟨_,rfl⟩
 have e:rev32 n=b3+256*b2+65536*b1+16777216*b0:=by unfold rev32 ofBytes;rw [h0,h1,h2,h3]
 rw [h0,h1,h2,show n / 16777216 % 256=b3 by omega]
 have:b0<256:=by omega
 have:b1<256:=by omega
 have:b2<256:=by omega
 have:b3<256:=by omega
 have key : ∀ q:Nat,q=b3+256*b2+65536*b1+16777216*b0->q / 16777216 % 256=b0/\q / 65536 % 256=b1/\q / 256 % 256=b2/\q % 256=b3:=fun q hq=>by clear e h0 h1 h2 h3;omega
 obtain ⟨k0,k1,k2,k3⟩:=key _ e
 have e2:b2=n / 65536 % 256:=h2.symm
 refine ⟨⟨?_,?_⟩,?_,?_⟩
 · rw [← k0];simp
 · rw [← k1];simp
 · rw [← k2];simp
 · rw [← k3];simp
theorem zbn (r:Hp) (g:Nat) (v:Value) (bad:Bool) (l:List UInt8) (n:Nat) (hn:n<4294967296) (hl:l.length<=70000000000000) :
 Tri Tryz.prog r 86 [.pointer (some ⟨g,0,none⟩),.int .u32 n] [pt g (wri v bad),U8R v l] fun _ H => ∃ v',H=[pt g (wri v' bad),U8R v' (l++fixed n)]:=by
 refine Tri.free fun R HR=>?_
 have HL:=hid hl
 have HB:=hid (zp4 n hn)
 have HN:=hid hn
 have hrl:rev32 n<4294967296:=by unfold rev32 ofBytes;omega
 obtain ⟨q,hq⟩ : ∃ q,rev32 n=q:=⟨_,rfl⟩
 have HQ:=hid hq
 rw [hq] at HB hrl
 clear hl hn hq
 unfold wri
 refine ae Tryz.func86 Tryz.ntmps86 ?_
 repeat' (first|refine ax0m ?_|(refine abb ?_;intro b)|(refine acl Tryz.func148 ?_;refine acr (zrq _ _ HN.out) ?_;rintro v' H' ⟨rfl,rfl⟩;refine apl ?_)|refine ax1m ?_|(refine aac ?_;intro ac cc)|refine ax2m ?_|(refine ap3 ?_ ?_<;>try intro h)|apply True.intro)
 rw [HQ.out]
 refine z04 (fun gg t H' => ∃ (j:Nat) (v':Value),gg=5 - j/\j<=4/\Takes [pt g (.cells [v',.bool bad].toArray 70 (0,0)),U8R v' (l++(fixed n).take j)] H' [] /\
  (t.length=27/\t[0]?=some (.pointer (some ⟨g,0,none⟩))/\t[4]?=some (.int .u32 q)/\t[5]?=some (.int .i64 (kk j)))) 5
  ⟨0,v,rfl,by omega,by simp;(exact atks),rfl,rfl,rfl,rfl⟩ ?_
 rintro gg t H' ⟨j,v',rfl,hj,hp,hlen,e0,e4,e5⟩
 revert e0 e4 e5;revert t;refine z0s (n:=27) ?_;intro u0 u1 u2 u3 u4 u5 u6 u7 u8 u9 u10 u11 u12 u13 u14 u15 u16 u17 u18 u19 u20 u21 u22 u23 u24 u25 u26 e0 e4 e5;cases e0;cases e4;cases e5
 refine z6g hp ?_
 clear hp
 obtain rfl|rfl|rfl|rfl|rfl:j=0\/j=1\/j=2\/j=3\/j=4:=by omega
 · rw [show kk 0=24 from rfl]
   repeat' (first|refine ax0m ?_|(refine abb ?_;intro b)|refine ax1m ?_|(refine aac ?_;intro ac cc)|refine ax2m ?_|(refine ap3 ?_ ?_<;>try intro h)|apply True.intro)
   ((with_reducible apply z02 (id:=4) 11 [(0,true),(1,true),(2,true),(3,true),(4,true),(5,true),(6,true),(7,true),(8,true),(9,false),(10,false)] [(11,false),(12,false),(13,false)] [(g,.cells [v',.bool bad].toArray 70 (0,0))]);kernel_rfl;(exact atks);kernel_rfl;intro r' hl')
   have hb0:=hl'.2 _ List.mem_cons_self
   repeat' (first|refine ax0m ?_|(refine abb ?_;intro b)|((with_reducible apply z0t (E:=5) (z:= .int .u8 0) (by_:=1));kernel_rfl;kernel_rfl;rfl;rfl;rfl;intro bz;(refine apk ?_))|((with_reducible apply z0d (E:=5) (z:= .int .u8 0) (by_:=1));kernel_rfl;kernel_rfl;rfl;rfl;rfl;(exact atk);(exact atk);rfl;(have:=HL.out;simp [fixed];omega);intro a' c';(refine apk ?_))|refine ax1m ?_|(refine aac ?_;intro ac cc)|refine ax2m ?_|(refine ap3 ?_ ?_<;>try intro h)|apply True.intro)
   refine ⟨_,by omega,0+1,.slice a' ((l++(fixed n).take 0).length+1) c',rfl,by omega,?_,rfl,rfl,rfl,rfl⟩
   rw [show (q:Int) / 16777216=((UInt8.ofNat n).toNat:Int) by have:=HB.out.1.1;omega]
   simp only [fixed,u8s,U8R,List.take_succ_cons,List.take_zero,List.map_append,List.map_cons,List.map_nil,List.length_append,List.length_cons,List.length_nil,List.append_assoc,List.nil_append,Nat.zero_add,Nat.add_zero]
   (exact atks)
 · rw [show kk 1=16 from rfl]
   repeat' (first|refine ax0m ?_|(refine abb ?_;intro b)|refine ax1m ?_|(refine aac ?_;intro ac cc)|refine ax2m ?_|(refine ap3 ?_ ?_<;>try intro h)|apply True.intro)
   ((with_reducible apply z02 (id:=4) 11 [(0,true),(1,true),(2,true),(3,true),(4,true),(5,true),(6,true),(7,true),(8,true),(9,false),(10,false)] [(11,false),(12,false),(13,false)] [(g,.cells [v',.bool bad].toArray 70 (0,0))]);kernel_rfl;(exact atks);kernel_rfl;intro r' hl')
   have hb0:=hl'.2 _ List.mem_cons_self
   repeat' (first|refine ax0m ?_|(refine abb ?_;intro b)|((with_reducible apply z0t (E:=5) (z:= .int .u8 0) (by_:=1));kernel_rfl;kernel_rfl;rfl;rfl;rfl;intro bz;(refine apk ?_))|((with_reducible apply z0d (E:=5) (z:= .int .u8 0) (by_:=1));kernel_rfl;kernel_rfl;rfl;rfl;rfl;(exact atk);(exact atk);rfl;(have:=HL.out;simp [fixed];omega);intro a' c';(refine apk ?_))|refine ax1m ?_|(refine aac ?_;intro ac cc)|refine ax2m ?_|(refine ap3 ?_ ?_<;>try intro h)|apply True.intro)
   refine ⟨_,by omega,1+1,.slice a' ((l++(fixed n).take 1).length+1) c',rfl,by omega,?_,rfl,rfl,rfl,rfl⟩
   rw [HB.out.1.2]
   simp only [fixed,u8s,U8R,List.take_succ_cons,List.take_zero,List.map_append,List.map_cons,List.map_nil,List.length_append,List.length_cons,List.length_nil,List.append_assoc,List.cons_append,List.nil_append,Nat.zero_add,Nat.reduceAdd,Nat.add_assoc]
   (exact atks)
 · rw [show kk 2=8 from rfl]
   repeat' (first|refine ax0m ?_|(refine abb ?_;intro b)|refine ax1m ?_|(refine aac ?_;intro ac cc)|refine ax2m ?_|(refine ap3 ?_ ?_<;>try intro h)|apply True.intro)
   ((with_reducible apply z02 (id:=4) 11 [(0,true),(1,true),(2,true),(3,true),(4,true),(5,true),(6,true),(7,true),(8,true),(9,false),(10,false)] [(11,false),(12,false),(13,false)] [(g,.cells [v',.bool bad].toArray 70 (0,0))]);kernel_rfl;(exact atks);kernel_rfl;intro r' hl')
   have hb0:=hl'.2 _ List.mem_cons_self
   repeat' (first|refine ax0m ?_|(refine abb ?_;intro b)|((with_reducible apply z0t (E:=5) (z:= .int .u8 0) (by_:=1));kernel_rfl;kernel_rfl;rfl;rfl;rfl;intro bz;(refine apk ?_))|((with_reducible apply z0d (E:=5) (z:= .int .u8 0) (by_:=1));kernel_rfl;kernel_rfl;rfl;rfl;rfl;(exact atk);(exact atk);rfl;(have:=HL.out;simp [fixed];omega);intro a' c';(refine apk ?_))|refine ax1m ?_|(refine aac ?_;intro ac cc)|refine ax2m ?_|(refine ap3 ?_ ?_<;>try intro h)|apply True.intro)
   refine ⟨_,by omega,2+1,.slice a' ((l++(fixed n).take 2).length+1) c',rfl,by omega,?_,rfl,rfl,rfl,rfl⟩
   rw [HB.out.2.1]
   simp only [fixed,u8s,U8R,List.take_succ_cons,List.take_zero,List.map_append,List.map_cons,List.map_nil,List.length_append,List.length_cons,List.length_nil,List.append_assoc,List.cons_append,List.nil_append,Nat.zero_add,Nat.reduceAdd,Nat.add_assoc]
   (exact atks)
 · rw [show kk 3=0 from rfl]
   repeat' (first|refine ax0m ?_|(refine abb ?_;intro b)|refine ax1m ?_|(refine aac ?_;intro ac cc)|refine ax2m ?_|(refine ap3 ?_ ?_<;>try intro h)|apply True.intro)
   ((with_reducible apply z02 (id:=4) 11 [(0,true),(1,true),(2,true),(3,true),(4,true),(5,true),(6,true),(7,true),(8,true),(9,false),(10,false)] [(11,false),(12,false),(13,false)] [(g,.cells [v',.bool bad].toArray 70 (0,0))]);kernel_rfl;(exact atks);kernel_rfl;intro r' hl')
   have hb0:=hl'.2 _ List.mem_cons_self
   repeat' (first|refine ax0m ?_|(refine abb ?_;intro b)|((with_reducible apply z0t (E:=5) (z:= .int .u8 0) (by_:=1));kernel_rfl;kernel_rfl;rfl;rfl;rfl;intro bz;(refine apk ?_))|((with_reducible apply z0d (E:=5) (z:= .int .u8 0) (by_:=1));kernel_rfl;kernel_rfl;rfl;rfl;rfl;(exact atk);(exact atk);rfl;(have:=HL.out;simp [fixed];omega);intro a' c';(refine apk ?_))|refine ax1m ?_|(refine aac ?_;intro ac cc)|refine ax2m ?_|(refine ap3 ?_ ?_<;>try intro h)|apply True.intro)
   refine ⟨_,by omega,3+1,.slice a' ((l++(fixed n).take 3).length+1) c',rfl,by omega,?_,rfl,rfl,rfl,rfl⟩
   rw [HB.out.2.2]
   simp only [fixed,u8s,U8R,List.take_succ_cons,List.take_zero,List.map_append,List.map_cons,List.map_nil,List.length_append,List.length_cons,List.length_nil,List.append_assoc,List.cons_append,List.nil_append,Nat.zero_add,Nat.reduceAdd,Nat.add_assoc]
   (exact atks)
 · rw [show kk 4 = -8 from rfl]
   repeat' (first|refine ax0m ?_|(refine abb ?_;intro b)|refine ax1m ?_|(refine aac ?_;intro ac cc)|refine ax2m ?_|(refine ap3 ?_ ?_<;>try intro h)|apply True.intro)
   ((with_reducible apply z1k);exact res_0 rfl)
   exact HR.out _ [] _ _ atks ⟨_,rfl⟩
end Go.Proofs.YtohpeoakdgckfaaGreat
