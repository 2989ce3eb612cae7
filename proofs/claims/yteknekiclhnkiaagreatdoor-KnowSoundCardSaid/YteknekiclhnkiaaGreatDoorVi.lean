/- query's compare functions over texts; query.copied: their contracts. -/
import Derived.Test.YteknekiclhnkiaaGreatDoorUi
import Derived.Test.YteknekiclhnkiaaGreatDoorShelf
import Derived.Sort.OwnSortedInts
import Derived.Shelf.SlIter.AllValuesS
import Derived.Test.YteknekiclhnkiaaGreatDoorVh
set_option maxHeartbeats 1000000
set_option maxRecDepth 10000
namespace Go.Proofs.YteknekiclhnkiaaGreatDoor
open Go.RowKit Sx
def vTx (x:Tx):Value:= .string (bs x)
def vQ (q:QuV):Value:= .agg (encQ q).toArray
theorem rd_one {r:Hp} {H:List Ch} {b off k:Nat} {v:Value} (h:RdN r H ⟨b,off+k*1,none⟩ [v].toArray):Rd1 r H ⟨b,off+k,none⟩ v:=by
 have:=h 0 (by simp)
 simpa [Addr.add] using this
theorem indexStr_any (r:Hp) (v:Value) (xs:List Tx) (fv:Value) (gf:FuncId) (cap:List Value) (H:List Ch) (q:Tx->Bool) (hv:Els r 1 encTx v xs) (hfv:fv = .func (.func gf) #[] cap.toArray) (hg:GoesTo Tryz.prog gf)
 (hp : ∀ k (hk:k<xs.length),Tri Tryz.prog r gf (vTx xs[k]::cap) H fun w H'=>w = .bool (q xs[k])/\H'=H) :
 Tri Tryz.prog r 99 [v,fv] H fun w H'=>w = .int .i64 (idx (xs.findIdx? q))/\H'=H:=by
 obtain ⟨a,c,rfl⟩:=hv.form
 have hn:=hv.2.2.1
 unfold maxLen at hn
 obtain ⟨n,hln⟩ : ∃ n,xs.length=n:=⟨_,rfl⟩
 rw [hln] at hn hv ⊢
 have HLN:=hid hln
 clear hln
 refine ae Tryz.func99 Tryz.ntmps99 ?_
 repeat' (first|refine ax0m ?_|(refine abb ?_;intro b)|refine ax1m ?_|(refine aac ?_;intro ac cc)|refine ax2m ?_|(refine ap3 ?_ ?_<;>try intro h)|apply True.intro)
 refine sw_loop (fun g t H' => ∃ k:Nat,g=n+1 - k/\k<=n/\(xs.take k).findIdx? q=none/\H'=H/\(t.length=19/\t[0]?=some (.slice a n c)/\t[1]?=some (fv)/\t[6]?=some (.slice a n c)/\t[7]?=some (.int .i64 n)/\t[8]?=some (.int .i64 k))) (n+1) ⟨0,rfl,Nat.zero_le _,by simp,rfl,rfl,rfl,rfl,rfl,rfl,rfl⟩ ?_
 rintro g t H' ⟨k,rfl,hk,hall,rfl,hlen,e0,e1,e6,e7,e8⟩
 revert e0 e1 e6 e7 e8;revert t;refine all_len (n:=19) ?_;intro u0 u1 u2 u3 u4 u5 u6 u7 u8 u9 u10 u11 u12 u13 u14 u15 u16 u17 u18 e0 e1 e6 e7 e8;cases e0;cases e1;cases e6;cases e7;cases e8
 have HA:=hid hall
 clear hall
 by_cases hlt:k<n
 · have hkx:k<xs.length:=by rw [HLN.out];exact hlt
   obtain ⟨b,off,rfl,hc⟩:=hv.at hkx HLN.out
   obtain ⟨x,hx⟩ : ∃ x,xs[k]=x:=⟨_,rfl⟩
   have hq:=hp k hkx
   rw [hx] at hq hc
   have hc':=hc r H' (fun _ _ h=>h)
   obtain ⟨y,hy⟩ : ∃ y,q x=y:=⟨_,rfl⟩
   rw [hy] at hq
   have HC:=hid hq
   have HX:=hid hx
   have HY:=hid hy
   clear hc hp hq hx hy
   subst hfv
   unfold encTx at hc'
   have hc':=rd_one hc'
   unfold vTx at HC
   (try unfold encTx at HC)
   cases y
   · repeat' (first|refine ax0m ?_|(refine abb ?_;intro b)|(with_reducible apply kx_call (f:=gf) (cap:=cap));exact hg;rfl;rfl;exact HC.out;exact Takes.all;rintro v' H1 ⟨rfl,rfl⟩;rw [List.append_nil];(refine apk ?_)|refine ax1m ?_|(refine aac ?_;intro ac cc)|refine ax2m ?_|(refine ap3 ?_ ?_<;>try intro h)|apply True.intro)
     refine ⟨_,by omega,k+1,rfl,by omega,?_,rfl,rfl,rfl,rfl,rfl,rfl,rfl⟩
     rw [find_app hkx HA.out,HX.out,HY.out];rfl
   · repeat' (first|refine ax0m ?_|(refine abb ?_;intro b)|(with_reducible apply kx_call (f:=gf) (cap:=cap));exact hg;rfl;rfl;exact HC.out;exact Takes.all;rintro v' H1 ⟨rfl,rfl⟩;rw [List.append_nil];(refine apk ?_)|refine ax1m ?_|(refine aac ?_;intro ac cc)|refine ax2m ?_|(refine ap3 ?_ ?_<;>try intro h)|apply True.intro)
     ((with_reducible apply fp_ret);exact res_1 rfl rfl)
     exact ⟨by rw [find_fst hkx HA.out (by rw [HX.out];exact HY.out)];rfl,rfl⟩
 · rw [List.take_of_length_le (by rw [HLN.out];omega)] at HA
   repeat' (first|refine ax0m ?_|(refine abb ?_;intro b)|refine ax1m ?_|(refine aac ?_;intro ac cc)|refine ax2m ?_|(refine ap3 ?_ ?_<;>try intro h)|apply True.intro)
   ((with_reducible apply fp_ret);exact res_1 rfl rfl)
   exact ⟨by rw [HA.out];rfl,rfl⟩
theorem contStr_any (r:Hp) (v:Value) (xs:List Tx) (gf:FuncId) (cap:List Value) (H:List Ch) (q:Tx->Bool) (hv:Els r 1 encTx v xs) (hg:GoesTo Tryz.prog gf)
 (hp : ∀ k (hk:k<xs.length),Tri Tryz.prog r gf (vTx xs[k]::cap) H fun w H'=>w = .bool (q xs[k])/\H'=H) :
 Tri Tryz.prog r 60 [v,.func (.func gf) #[] cap.toArray] H fun w H'=>w = .bool (xs.any q)/\H'=H:=by
 have hi:=indexStr_any r v xs _ gf cap H q hv rfl hg hp
 obtain ⟨a,c,rfl⟩:=hv.form
 have e:xs.any q=(xs.findIdx? q).isSome:=by rw [List.findIdx?_isSome]
 rw [e]
 obtain ⟨o,ho⟩ : ∃ o,xs.findIdx? q=o:=⟨_,rfl⟩
 rw [ho] at hi ⊢
 have HC:=hid hi
 clear hp hv hi e ho
 cases o
 all_goals
  refine ae Tryz.func60 Tryz.ntmps60 ?_
  repeat' (first|refine ax0m ?_|(refine abb ?_;intro b)|(with_reducible apply kx_call (f:=99) (cap:=[]));exact goesOf Tryz.func99 (by kernel_rfl) rfl;rfl;rfl;exact HC.out;exact Takes.all;rintro v' H1 ⟨rfl,rfl⟩;all_goals (rw [List.append_nil];unfold idx;(refine apk ?_))|refine ax1m ?_|(refine aac ?_;intro ac cc)|refine ax2m ?_|(refine ap3 ?_ ?_<;>try intro h)|apply True.intro)
  ((with_reducible apply fp_ret);exact res_1 rfl rfl)
  first
  | exact ⟨rfl,rfl⟩
  | exact ⟨by congr 1;simp,rfl⟩
theorem indexQry_any (r:Hp) (v:Value) (xs:List QuV) (fv:Value) (gf:FuncId) (cap:List Value) (H:List Ch) (q:QuV->Bool) (hv:Els r 3 encQ v xs) (hfv:fv = .func (.func gf) #[] cap.toArray) (hg:GoesTo Tryz.prog gf)
 (hp : ∀ k (hk:k<xs.length),Tri Tryz.prog r gf (vQ xs[k]::cap) H fun w H'=>w = .bool (q xs[k])/\H'=H) :
 Tri Tryz.prog r 100 [v,fv] H fun w H'=>w = .int .i64 (idx (xs.findIdx? q))/\H'=H:=by
 obtain ⟨a,c,rfl⟩:=hv.form
 have hn:=hv.2.2.1
 unfold maxLen at hn
 obtain ⟨n,hln⟩ : ∃ n,xs.length=n:=⟨_,rfl⟩
 rw [hln] at hn hv ⊢
 have HLN:=hid hln
 clear hln
 refine ae Tryz.func100 Tryz.ntmps100 ?_
 repeat' (first|refine ax0m ?_|(refine abb ?_;intro b)|refine ax1m ?_|(refine aac ?_;intro ac cc)|refine ax2m ?_|(refine ap3 ?_ ?_<;>try intro h)|apply True.intro)
 refine sw_loop (fun g t H' => ∃ k:Nat,g=n+1 - k/\k<=n/\(xs.take k).findIdx? q=none/\H'=H/\(t.length=19/\t[0]?=some (.slice a n c)/\t[1]?=some (fv)/\t[6]?=some (.slice a n c)/\t[7]?=some (.int .i64 n)/\t[8]?=some (.int .i64 k))) (n+1) ⟨0,rfl,Nat.zero_le _,by simp,rfl,rfl,rfl,rfl,rfl,rfl,rfl⟩ ?_
 rintro g t H' ⟨k,rfl,hk,hall,rfl,hlen,e0,e1,e6,e7,e8⟩
 revert e0 e1 e6 e7 e8;revert t;refine all_len (n:=19) ?_;intro u0 u1 u2 u3 u4 u5 u6 u7 u8 u9 u10 u11 u12 u13 u14 u15 u16 u17 u18 e0 e1 e6 e7 e8;cases e0;cases e1;cases e6;cases e7;cases e8
 have HA:=hid hall
 clear hall
 by_cases hlt:k<n
 · have hkx:k<xs.length:=by rw [HLN.out];exact hlt
   obtain ⟨b,off,rfl,hc⟩:=hv.at hkx HLN.out
   obtain ⟨x,hx⟩ : ∃ x,xs[k]=x:=⟨_,rfl⟩
   have hq:=hp k hkx
   rw [hx] at hq hc
   have hc':=hc r H' (fun _ _ h=>h)
   obtain ⟨y,hy⟩ : ∃ y,q x=y:=⟨_,rfl⟩
   rw [hy] at hq
   have HC:=hid hq
   have HX:=hid hx
   have HY:=hid hy
   clear hc hp hq hx hy
   subst hfv
   unfold encQ at hc'
   skip
   unfold vQ at HC
   (try unfold encQ at HC)
   cases y
   · repeat' (first|refine ax0m ?_|(refine abb ?_;intro b)|(with_reducible apply kx_call (f:=gf) (cap:=cap));exact hg;rfl;rfl;exact HC.out;exact Takes.all;rintro v' H1 ⟨rfl,rfl⟩;rw [List.append_nil];(refine apk ?_)|refine ax1m ?_|(refine aac ?_;intro ac cc)|refine ax2m ?_|(refine ap3 ?_ ?_<;>try intro h)|apply True.intro)
     refine ⟨_,by omega,k+1,rfl,by omega,?_,rfl,rfl,rfl,rfl,rfl,rfl,rfl⟩
     rw [find_app hkx HA.out,HX.out,HY.out];rfl
   · repeat' (first|refine ax0m ?_|(refine abb ?_;intro b)|(with_reducible apply kx_call (f:=gf) (cap:=cap));exact hg;rfl;rfl;exact HC.out;exact Takes.all;rintro v' H1 ⟨rfl,rfl⟩;rw [List.append_nil];(refine apk ?_)|refine ax1m ?_|(refine aac ?_;intro ac cc)|refine ax2m ?_|(refine ap3 ?_ ?_<;>try intro h)|apply True.intro)
     ((with_reducible apply fp_ret);exact res_1 rfl rfl)
     exact ⟨by rw [find_fst hkx HA.out (by rw [HX.out];exact HY.out)];rfl,rfl⟩
 · rw [List.take_of_length_le (by rw [HLN.out];omega)] at HA
   repeat' (first|refine ax0m ?_|(refine abb ?_;intro b)|refine ax1m ?_|(refine aac ?_;intro ac cc)|refine ax2m ?_|(refine ap3 ?_ ?_<;>try intro h)|apply True.intro)
   ((with_reducible apply fp_ret);exact res_1 rfl rfl)
   exact ⟨by rw [HA.out];rfl,rfl⟩
theorem contQry_any (r:Hp) (v:Value) (xs:List QuV) (gf:FuncId) (cap:List Value) (H:List Ch) (q:QuV->Bool) (hv:Els r 3 encQ v xs) (hg:GoesTo Tryz.prog gf)
 (hp : ∀ k (hk:k<xs.length),Tri Tryz.prog r gf (vQ xs[k]::cap) H fun w H'=>w = .bool (q xs[k])/\H'=H) :
 Tri Tryz.prog r 62 [v,.func (.func gf) #[] cap.toArray] H fun w H'=>w = .bool (xs.any q)/\H'=H:=by
 have hi:=indexQry_any r v xs _ gf cap H q hv rfl hg hp
 obtain ⟨a,c,rfl⟩:=hv.form
 have e:xs.any q=(xs.findIdx? q).isSome:=by rw [List.findIdx?_isSome]
 rw [e]
 obtain ⟨o,ho⟩ : ∃ o,xs.findIdx? q=o:=⟨_,rfl⟩
 rw [ho] at hi ⊢
 have HC:=hid hi
 clear hp hv hi e ho
 cases o
 all_goals
  refine ae Tryz.func62 Tryz.ntmps62 ?_
  repeat' (first|refine ax0m ?_|(refine abb ?_;intro b)|(with_reducible apply kx_call (f:=100) (cap:=[]));exact goesOf Tryz.func100 (by kernel_rfl) rfl;rfl;rfl;exact HC.out;exact Takes.all;rintro v' H1 ⟨rfl,rfl⟩;all_goals (rw [List.append_nil];unfold idx;(refine apk ?_))|refine ax1m ?_|(refine aac ?_;intro ac cc)|refine ax2m ?_|(refine ap3 ?_ ?_<;>try intro h)|apply True.intro)
  ((with_reducible apply fp_ret);exact res_1 rfl rfl)
  first
  | exact ⟨rfl,rfl⟩
  | exact ⟨by congr 1;simp,rfl⟩
theorem gram_any (r:Hp) (g:Tx):Tri Tryz.prog r 34 [.string (bs g)] [] fun w H=>w = .bool (decide (g.length=3))/\H=[]:=by
 refine Tri.free2 fun R HR=>?_
 by_cases h:g.length=3
 · rw [decide_eq_true h] at HR
   refine ae Tryz.func34 Tryz.ntmps34 ?_
   repeat' (first|exact xf|refine aw0 ?_|(refine ap2 ?_ ?_<;>try intro h)|refine aw1 ?_|(refine abx ?_;intro bb)|(refine abz ?_;intro bz)|(refine ahv ?_;intro v' hv')|(refine aac ?_;intro ac cc)|refine aw2 ?_|(refine ap4 ?_ ?_<;>try intro h)|apply True.intro)
   ((with_reducible apply fp_ret);exact res_1 rfl rfl)
   exact HR.out _ _ _ [] Takes.all ⟨by first|rfl|(congr 1;simp;omega),rfl⟩
 · rw [decide_eq_false h] at HR
   refine ae Tryz.func34 Tryz.ntmps34 ?_
   repeat' (first|exact xf|refine aw0 ?_|(refine ap2 ?_ ?_<;>try intro h)|refine aw1 ?_|(refine abx ?_;intro bb)|(refine abz ?_;intro bz)|(refine ahv ?_;intro v' hv')|(refine aac ?_;intro ac cc)|refine aw2 ?_|(refine ap4 ?_ ?_<;>try intro h)|apply True.intro)
   ((with_reducible apply fp_ret);exact res_1 rfl rfl)
   exact HR.out _ _ _ [] Takes.all ⟨by first|rfl|(congr 1;simp;omega),rfl⟩
theorem ggram_any (r:Hp) (g:Tx):Tri Tryz.prog r 110 [.string (bs g)] [] fun w H=>w = .bool (!decide (g.length=3))/\H=[]:=by
 refine Tri.free2 fun R HR=>?_
 have hg:=gram_any r g
 obtain ⟨b,hb⟩ : ∃ b,decide (g.length=3)=b:=⟨_,rfl⟩
 rw [hb] at hg HR
 refine ae Tryz.func110 Tryz.ntmps110 ?_
 repeat' (first|(refine acl Tryz.func34 ?_;refine acr (hg) ?_;rintro v' H' ⟨rfl,rfl⟩;refine apl ?_)|exact xf|refine aw0 ?_|(refine ap2 ?_ ?_<;>try intro h)|refine aw1 ?_|(refine abx ?_;intro bb)|(refine abz ?_;intro bz)|(refine ahv ?_;intro v' hv')|(refine aac ?_;intro ac cc)|refine aw2 ?_|(refine ap4 ?_ ?_<;>try intro h)|apply True.intro)
 ((with_reducible apply fp_ret);exact res_1 rfl rfl)
 exact HR.out _ _ _ [] Takes.all ⟨rfl,rfl⟩
end Go.Proofs.YteknekiclhnkiaaGreatDoor
namespace Go.Proofs.YteknekiclhnkiaaGreatDoor
open Go.RowKit Go.Sort Sx
theorem Sx.tri_rowS {P:Program} {r:Hp} {f:FuncId} {args:List Value} {R:Rt} {E:TypeId} {sz n c:Nat} {a:Option Addr} {xs:List Value} (hn:0<n) (h : ∀ b cur,a=some ⟨b,0,none⟩->n<=c->c<=maxLen->cur.size=c*sz->cur.toList.take (n*sz)=xs->Tri P r f args [pt b (.cells cur E (0,0))] R) :
 Tri P r f args [RowC E sz (.slice a n c) n xs] R :=
 tri_iff.2 fun w g ok al=>by
  obtain ⟨g1,g2,dd,rfl,hR,rfl⟩:=al
  rcases hR.2 with ⟨_,h0,_⟩ | ⟨b,cap,cur,hv,rfl,h1,h2,h3,h4⟩
  · omega
  · injection hv with e1 e2 e3
    subst e3
    exact tri_iff.1 (h b cur e1 h1 h2 h3 h4) w _ ok ⟨_,emp,dd,rfl,rfl,rfl⟩
theorem encTx_map (l:List Tx):l.map encStr=l.flatMap encTx:=by
 induction l with
 | nil=>rfl
 | cons x l ih=>rw [List.map_cons,ih];rfl
def sortT (l:List Tx):List Tx:=l.mergeSort fun x y=>decide (x<=y)
theorem sortT_len (l:List Tx):(sortT l).length=l.length:=List.length_mergeSort l
theorem sortT_tri (r:Hp) (a:Option Addr) (c:Nat) (zs:List Tx) (hz:zs.length<=10000000):Tri Tryz.prog r 101 [.slice a zs.length c] [RowC 9 1 (.slice a zs.length c) zs.length (zs.flatMap encTx)] fun _ H=>H=[RowC 9 1 (.slice a zs.length c) zs.length ((sortT zs).flatMap encTx)]:=by
 rw [← encTx_map,← encTx_map]
 by_cases h0:zs=[]
 · subst h0
   rw [show sortT []=[] by simp [sortT]]
   refine tri_iff.2 fun w g ok al=>?_
   have:=Tryz.slices_Sort_string_none a c w
   refine this.mono fun e w' h=>?_
   obtain ⟨he,hw⟩:=h
   subst hw
   exact ⟨_,_,g,he,rfl,al,To.refl ok⟩
 have hpos:0<zs.length:=List.length_pos_iff.2 h0
 have hlen:=sortT_len zs
 refine tri_rowS hpos fun b cur ha h1 h2 h3 h4=>?_
 subst ha
 generalize hC:sortT zs=C at hlen ⊢
 refine tri_cv (tri_inplace (R:=fun _ cur'=>cur'.size=c*1/\cur'.toList.take (zs.length*1)=C.map encStr) fun w ro hb=>?_) fun v H ⟨cur',hH,hs,ht⟩=>?_
 · have hH:Holds encStr w b 0 zs.toArray:=holds_of_block hb (by rw [show zs.length=zs.length*1 by omega];exact h4)
   refine (Tryz.slices_Sort_string b 0 c zs w hH (Array.getElem?_eq_some_iff.1 hb).1 (by omega)).mono fun e w' ⟨he,n,os,hw⟩=>?_
   rw [show (zs.mergeSort fun x y=>decide (x<=y))=C from hC] at hw
   have hbs:b<w.heap.size:=(Array.getElem?_eq_some_iff.1 hb).1
   refine ⟨_,putCells encStr 0 C.toArray cur,he,?_,?_,?_,?_⟩
   · rw [hw]
     show ((putRow encStr (Sort.ahead w n) b 0 C.toArray).heap++os)[b]?=_
     rw [Array.getElem?_append_left (by simpa [putRow,mapBlock,Sort.ahead] using hbs)]
     simp [putRow,mapBlock,Sort.ahead,Array.getElem?_modify,hb,onCells]
   · rw [hw]
     refine ⟨rfl,rfl,rfl,by simp [grow,putRow,mapBlock,Sort.ahead],fun k hk hne=>?_⟩
     have:b≠k:=fun e=>hne (by rw [e])
     show ((putRow encStr (Sort.ahead w n) b 0 C.toArray).heap++os)[k]?=_
     rw [Array.getElem?_append_left (by simpa [putRow,mapBlock,Sort.ahead] using hk)]
     simp [putRow,mapBlock,Sort.ahead,Array.getElem?_modify,this]
   · simp [putCells,h3]
   · have h5:=take_putCells cur C (by rw [h3,hlen];omega)
     rw [hlen] at h5
     rw [Nat.mul_one]
     exact h5
 · refine ⟨[RowC 9 1 (.slice (some ⟨b,0,none⟩) zs.length c) zs.length (C.map encStr)],rfl,fun g hg=>?_⟩
   subst hH
   refine all_imp (fun h e=>?_) hg
   have:=RowC.of_pt (E:=9) (sz:=1) (n:=zs.length) h1 h2 hs h e
   rwa [ht] at this
theorem compactT_tri (r:Hp) (a:Option Addr) (c:Nat) (zs:List Tx) (hz:zs.length<=10000000):Tri Tryz.prog r 85 [.slice a zs.length c] [RowC 9 1 (.slice a zs.length c) zs.length (zs.flatMap encTx)] fun w H=>w = .slice a (Lib.compact zs).length c/\H=[RowC 9 1 w (Lib.compact zs).length ((Lib.compact zs).flatMap encTx)]:=by
 rw [← encTx_map,← encTx_map]
 by_cases h0:zs=[]
 · subst h0
   refine tri_iff.2 fun w g ok al=>?_
   have:=Tryz.slices_Compact_string_empty a c w
   refine this.mono fun e w' ⟨he,hw⟩=>?_
   subst hw
   exact ⟨_,_,g,he,⟨rfl,rfl⟩,al,To.refl ok⟩
 have hpos:0<zs.length:=List.length_pos_iff.2 h0
 have hcl:(Lib.compact zs).length<=zs.length:=by
  unfold Lib.compact Lib.compactUpTo
  rw [List.length_map]
  refine Nat.le_trans (List.length_filter_le _ _) ?_
  rw [List.length_range]
  exact Nat.le_refl _
 refine tri_rowS hpos fun b cur ha h1 h2 h3 h4=>?_
 subst ha
 generalize hC:Lib.compact zs=C at hcl ⊢
 refine tri_cv (tri_inplace (R:=fun v cur'=>v = .slice (some ⟨b,0,none⟩) C.length c/\cur'.size=c*1/\cur'.toList.take (C.length*1)=C.map encStr) fun w ro hb=>?_) fun v H ⟨cur',hH,hv,hs,ht⟩=>?_
 · have hH:Holds encStr w b 0 zs.toArray:=holds_of_block hb (by rw [show zs.length=zs.length*1 by omega];exact h4)
   refine (Tryz.slices_Compact_string b 0 c zs w hH (by omega) h1).mono fun e w' ⟨he,q,hw⟩=>?_
   rw [hC] at he hw
   have hlen:(C++List.replicate (zs.length - C.length) []).length=zs.length:=by rw [List.length_append,List.length_replicate];omega
   refine ⟨_,putCells encStr 0 (C++List.replicate (zs.length - C.length) []).toArray cur,he,?_,?_,rfl,?_,?_⟩
   · rw [hw]
     simp [putRow,mapBlock,Sort.ahead,Array.getElem?_modify,hb,onCells]
   · rw [hw]
     refine ⟨rfl,rfl,rfl,by simp [putRow,mapBlock,Sort.ahead],fun k hk hne=>?_⟩
     have:b≠k:=fun e=>hne (by rw [e])
     simp [putRow,mapBlock,Sort.ahead,Array.getElem?_modify,this]
   · simp [putCells,h3]
   · have h5:=take_putCells cur (C++List.replicate (zs.length - C.length) []) (by rw [h3,hlen];omega)
     have h6:=congrArg (List.take C.length) h5
     rw [List.take_take,hlen,Nat.min_eq_left hcl] at h6
     rw [Nat.mul_one,h6,List.map_append,List.take_append_of_le_length (by rw [List.length_map];exact Nat.le_refl _),List.take_of_length_le (by rw [List.length_map];exact Nat.le_refl _)]
 · refine ⟨[RowC 9 1 v C.length (C.map encStr)],⟨hv,rfl⟩,fun g hg=>?_⟩
   subst hH;subst hv
   refine all_imp (fun h e=>?_) hg
   have:=RowC.of_pt (E:=9) (sz:=1) (n:=C.length) (by omega:C.length<=c) h2 hs h e
   rwa [ht] at this
end Go.Proofs.YteknekiclhnkiaaGreatDoor
namespace Go.Proofs.YteknekiclhnkiaaGreatDoor
open Go.RowKit Sx
theorem cloneT_any (r:Hp) (v:Value) (xs:List Tx) (hv:Els r 1 encTx v xs) (hone:(xs.flatMap encTx).all one?=true) (hl:xs.length<=10000000):Tri Tryz.prog r 132 [v] [] fun w H => ∃ a c,w = .slice a xs.length c/\H=[RowC 9 1 w xs.length (xs.flatMap encTx)]:=by
 have hn:=fun (a:Option Addr) (n c:Nat) (w:World)=>Lib.run_eql_slice_nil (P:=Tryz.prog) w 34 _ a n c 0 0 Tryz.underlying34
 refine Tri.free2 fun R HR=>?_
 obtain ⟨a,c,rfl⟩:=hv.form
 cases a with
 | none =>
  have hx:xs=[]:=by
   rcases hv.2.2.2 with ⟨_,h0⟩ | ⟨b,off,cap,c,E,fz,h,_⟩
   · exact List.length_eq_zero_iff.1 h0
   · cases h
  subst hx
  refine ae Tryz.func132 Tryz.ntmps132 ?_
  refine sw_put (A:=RowC 9 1 (.slice none 0 0) 0 []) (RowC.nil _ _) ?_
  repeat' (first|((with_reducible refine swo_kit ?_ ?_);rfl;intro w ds K' hK;gi_big_op;(with_reducible refine hK _ ?_);clear hK K' ds w)|refine aw0 ?_|(refine ap2 ?_ ?_<;>try intro h)|refine aw1 ?_|(refine abx ?_;intro bb)|(refine abz ?_;intro bz)|(refine ahv ?_;intro v' hv')|(refine aac ?_;intro ac cc)|refine aw2 ?_|(refine ap4 ?_ ?_<;>try intro h)|apply True.intro)
  ((with_reducible apply fp_ret);exact res_1 rfl rfl)
  exact HR.out _ _ _ [RowC 9 1 (.slice none 0 0) 0 []] atks ⟨_,_,rfl,rfl⟩
 | some ad =>
  refine ae Tryz.func132 Tryz.ntmps132 ?_
  repeat' (first|((with_reducible apply kx_bs0R);exact ty_el;exact ty_inf;intro bz;(refine apk ?_))|((with_reducible refine swo_isApp ?_);(with_reducible apply kx_appS (news:=xs.flatMap encTx));exact ty_el;exact ty_inf;rfl;rfl;rfl;rfl;exact hv.2;(exact atk);exact hone;(unfold maxLen;omega);(omega);intro a' c';refine apm ?_)|((with_reducible refine swo_kit ?_ ?_);rfl;intro w ds K' hK;gi_big_op;(with_reducible refine hK _ ?_);clear hK K' ds w)|refine aw0 ?_|(refine ap2 ?_ ?_<;>try intro h)|refine aw1 ?_|(refine abx ?_;intro bb)|(refine abz ?_;intro bz)|(refine ahv ?_;intro v' hv')|(refine aac ?_;intro ac cc)|refine aw2 ?_|(refine ap4 ?_ ?_<;>try intro h)|apply True.intro)
  simp only [Nat.zero_add]
  ((with_reducible apply fp_ret);exact res_1 rfl rfl)
  exact HR.out _ _ _ [RowC 9 1 _ _ _] atks ⟨a',c',rfl,rfl⟩
theorem cloneQ_any (r:Hp) (v:Value) (xs:List QuV) (hv:Els r 3 encQ v xs) (hone:(xs.flatMap encQ).all one?=true) (hl:xs.length<=10000000):Tri Tryz.prog r 133 [v] [] fun w H => ∃ a c,w = .slice a xs.length c/\H=[RowC 38 3 w xs.length (xs.flatMap encQ)]:=by
 have hn:=fun (a:Option Addr) (n c:Nat) (w:World)=>Lib.run_eql_slice_nil (P:=Tryz.prog) w 36 _ a n c 0 0 Tryz.underlying36
 refine Tri.free2 fun R HR=>?_
 obtain ⟨a,c,rfl⟩:=hv.form
 cases a with
 | none =>
  have hx:xs=[]:=by
   rcases hv.2.2.2 with ⟨_,h0⟩ | ⟨b,off,cap,c,E,fz,h,_⟩
   · exact List.length_eq_zero_iff.1 h0
   · cases h
  subst hx
  refine ae Tryz.func133 Tryz.ntmps133 ?_
  refine sw_put (A:=RowC 38 3 (.slice none 0 0) 0 []) (RowC.nil _ _) ?_
  repeat' (first|((with_reducible refine swo_kit ?_ ?_);rfl;intro w ds K' hK;gi_big_op;(with_reducible refine hK _ ?_);clear hK K' ds w)|refine aw0 ?_|(refine ap2 ?_ ?_<;>try intro h)|refine aw1 ?_|(refine abx ?_;intro bb)|(refine abz ?_;intro bz)|(refine ahv ?_;intro v' hv')|(refine aac ?_;intro ac cc)|refine aw2 ?_|(refine ap4 ?_ ?_<;>try intro h)|apply True.intro)
  ((with_reducible apply fp_ret);exact res_1 rfl rfl)
  exact HR.out _ _ _ [RowC 38 3 (.slice none 0 0) 0 []] atks ⟨_,_,rfl,rfl⟩
 | some ad =>
  refine ae Tryz.func133 Tryz.ntmps133 ?_
  repeat' (first|((with_reducible apply kx_bs0R);exact ty_el;exact ty_inf;intro bz;(refine apk ?_))|((with_reducible refine swo_isApp ?_);(with_reducible apply kx_appS (news:=xs.flatMap encQ));exact ty_el;exact ty_inf;rfl;rfl;rfl;rfl;exact hv.2;(exact atk);exact hone;(unfold maxLen;omega);(omega);intro a' c';refine apm ?_)|((with_reducible refine swo_kit ?_ ?_);rfl;intro w ds K' hK;gi_big_op;(with_reducible refine hK _ ?_);clear hK K' ds w)|refine aw0 ?_|(refine ap2 ?_ ?_<;>try intro h)|refine aw1 ?_|(refine abx ?_;intro bb)|(refine abz ?_;intro bz)|(refine ahv ?_;intro v' hv')|(refine aac ?_;intro ac cc)|refine aw2 ?_|(refine ap4 ?_ ?_<;>try intro h)|apply True.intro)
  simp only [Nat.zero_add]
  ((with_reducible apply fp_ret);exact res_1 rfl rfl)
  exact HR.out _ _ _ [RowC 38 3 _ _ _] atks ⟨a',c',rfl,rfl⟩
theorem encTx_one (xs:List Tx):(xs.flatMap encTx).all one?=true:=by simp [encTx,List.all_eq_true,one?]
theorem lessT_iff (a b:Tx):Op.bytesLess a b=true↔a<b:=by rw [bytesLess_eq,decide_eq_true_eq]
theorem naN_any (r:Hp) (a:Tx):Tri Tryz.prog r 131 [.string (bs a)] [] fun w H=>w = .bool false/\H=[]:=by
 refine Tri.free2 fun R HR=>?_
 refine ae Tryz.func131 Tryz.ntmps131 ?_
 repeat' (first|refine aw0m ?_|(refine ap2 ?_ ?_<;>try intro h)|refine aw1m ?_|(refine abx ?_;intro bb)|(refine abz ?_;intro bz)|(refine ahv ?_;intro v' hv')|(refine aac ?_;intro ac cc)|refine aw2 ?_|(refine ap4 ?_ ?_<;>try intro h)|apply True.intro)
 ((with_reducible apply fp_ret);exact res_1 rfl rfl)
 exact HR.out _ _ _ [] atks ⟨by simp,rfl⟩
namespace Sx
theorem sw_midW {P:Program} {l:Option Nat} {r:Hp} {Q:Exit->St} {t:List Value} {H:List Ch} {c1 c2:Code} (I:St) (h1:SW P l r c1 (Then I Q) t H) (h2 : ∀ t' H',I t' H'->SW P l r c2 Q t' H'):SW P l r (.seq c1 c2) Q t H :=
 sw_seq (sw_mono h1 fun e t' H' h=>by cases e<;>first|exact h|exact h2 _ _ h)
theorem pu_ldW {P:Program} {r:Hp} {t:List Value} {d:Option Tmp} {ty:TypeId} {pos:String} {af:Array Edge} {gd:Option (Nat × Bool)} {T E:TypeId} {x:Operand} {b n:Nat} {c:List Value} {fz:Nat × Nat} [TyF P T true n] (hx:evO t x=some (.pointer (some ⟨b,0,none⟩))) (h:r b=some (.cells c.toArray E fz)) (hl:c.length=n):Pur P r t ⟨d,.load T x,ty,pos,af,gd⟩ (.agg c.toArray) :=
 pu_ldN hx (rlN_r (n:=c.length) h (by unfold cut;rw [List.drop_zero,List.take_of_length_le (Nat.le_refl _)])) hl
end Sx
theorem compareT_any (r:Hp) (a b:Tx):Tri Tryz.prog r 104 [.string (bs a),.string (bs b)] [] fun w H=>(∃ c:Int,w = .int .i64 c/\(c<0↔a<b))/\H=[]:=by
 refine Tri.free2 fun R HR=>?_
 have h1:=naN_any r a
 have h2:=naN_any r b
 refine ae Tryz.func104 Tryz.ntmps104 ?_
 repeat' (first|(refine acl Tryz.func131 ?_;refine acr (h1) ?_;rintro v' H' ⟨rfl,rfl⟩;refine apl ?_)|(refine acl Tryz.func131 ?_;refine acr (h2) ?_;rintro v' H' ⟨rfl,rfl⟩;refine apl ?_)|exact xf|refine aw0 ?_|(refine ap2 ?_ ?_<;>try intro h)|refine aw1 ?_|(refine abx ?_;intro bb)|(refine abz ?_;intro bz)|(refine ahv ?_;intro v' hv')|(refine aac ?_;intro ac cc)|refine aw2 ?_|(refine ap4 ?_ ?_<;>try intro h)|apply True.intro)
 all_goals
  ((with_reducible apply fp_ret);exact res_1 rfl rfl)
  refine HR.out _ _ _ [] atks ⟨⟨_,rfl,?_⟩,rfl⟩
  rw [← lessT_iff]
  simp_all
def keyT (q:QuV):Tx:=textQ q.key
theorem query1_any (r:Hp) (hT:TabR r) (p q:QuV) (hp:QuR r p) (hq:QuR r q) (sp:sizeQ p.key<=9000000) (sq:sizeQ q.key<=9000000):Tri Tryz.prog r 103 [.agg (encQ p).toArray,.agg (encQ q).toArray] [] fun w H=>(∃ c:Int,w = .int .i64 c/\(c<0↔keyT p<keyT q))/\H=[]:=by
 refine Tri.free2 fun R HR=>?_
 unfold keyT at HR
 have ht1:=fun r' (h:sub r r')=>text_any p sp r' (hT.mono h) (hp.mono h)
 have ht2:=fun r' (h:sub r r')=>text_any q sq r' (hT.mono h) (hq.mono h)
 rw [show encQ p=[.int .i64 p.kind,p.gv,p.sv] from rfl] at ht1
 rw [show encQ q=[.int .i64 q.kind,q.gv,q.sv] from rfl] at ht2
 show Tri _ _ _ [.agg [.int .i64 p.kind,p.gv,p.sv].toArray,.agg [.int .i64 q.kind,q.gv,q.sv].toArray] _ _
 generalize textQ p.key=a at *
 generalize textQ q.key=b at *
 refine ae Tryz.func103 Tryz.ntmps103 ?_
 repeat' (first|((with_reducible apply kx_box (d:=some 2));rfl;(exact qcl);intro b2;(refine apk ?_))|((with_reducible apply kx_box (d:=some 3));rfl;(exact qcl);intro b3;(refine apk ?_))|((with_reducible apply pi_pur);rfl;(exact qwt);(with_reducible apply pu_ldW);rfl;(first|assumption|exact Lent.h1 hl'|exact Lent.h2 hl'|exact Lent.h3 hl');rfl;(refine apk ?_))|((with_reducible apply sw_draw (id:=1) 5 [(0,true),(2,true),(1,false),(3,false),(4,false)] [(5,false)] [(b2,.cells [.int .i64 p.kind,p.gv,p.sv].toArray 38 (0,0)),(b3,.cells [.int .i64 q.kind,q.gv,q.sv].toArray 38 (0,0))]);kernel_rfl;(exact atks);kernel_rfl;intro r' hl')|(refine acl Tryz.func40 ?_;refine acr (ht1 _ hl'.1) ?_;rintro v' H' ⟨rfl,rfl⟩;refine apl ?_)|(refine acl Tryz.func40 ?_;refine acr (ht2 _ hl'.1) ?_;rintro v' H' ⟨rfl,rfl⟩;refine apl ?_)|(refine acl Tryz.func104 ?_;refine acr (compareT_any _ a b) ?_;rintro v' H' ⟨⟨c,rfl,hc⟩,rfl⟩;refine apl ?_)|exact xf|refine aw0 ?_|(refine ap2 ?_ ?_<;>try intro h)|refine aw1 ?_|(refine abx ?_;intro bb)|(refine abz ?_;intro bz)|(refine ahv ?_;intro v' hv')|(refine aac ?_;intro ac cc)|refine aw2 ?_|(refine ap4 ?_ ?_<;>try intro h)|apply True.intro)
 ((with_reducible apply fp_ret);exact res_1 rfl rfl)
 exact HR.out _ _ _ [] Takes.all ⟨⟨c,rfl,hc⟩,rfl⟩
theorem query2_any (r:Hp) (hT:TabR r) (p q:QuV) (hp:QuR r p) (hq:QuR r q) (sp:sizeQ p.key<=9000000) (sq:sizeQ q.key<=9000000):Tri Tryz.prog r 107 [.agg (encQ p).toArray,.agg (encQ q).toArray] [] fun w H=>w = .bool (decide (keyT p=keyT q))/\H=[]:=by
 refine Tri.free2 fun R HR=>?_
 unfold keyT at HR
 have ht1:=fun r' (h:sub r r')=>text_any p sp r' (hT.mono h) (hp.mono h)
 have ht2:=fun r' (h:sub r r')=>text_any q sq r' (hT.mono h) (hq.mono h)
 rw [show encQ p=[.int .i64 p.kind,p.gv,p.sv] from rfl] at ht1
 rw [show encQ q=[.int .i64 q.kind,q.gv,q.sv] from rfl] at ht2
 show Tri _ _ _ [.agg [.int .i64 p.kind,p.gv,p.sv].toArray,.agg [.int .i64 q.kind,q.gv,q.sv].toArray] _ _
 generalize textQ p.key=a at *
 generalize textQ q.key=b at *
 refine ae Tryz.func107 Tryz.ntmps107 ?_
 repeat' (first|((with_reducible apply kx_box (d:=some 2));rfl;(exact qcl);intro b2;(refine apk ?_))|((with_reducible apply kx_box (d:=some 3));rfl;(exact qcl);intro b3;(refine apk ?_))|((with_reducible apply pi_pur);rfl;(exact qwt);(with_reducible apply pu_ldW);rfl;(first|assumption|exact Lent.h1 hl'|exact Lent.h2 hl'|exact Lent.h3 hl');rfl;(refine apk ?_))|((with_reducible apply sw_draw (id:=1) 5 [(0,true),(2,true),(1,false),(3,false),(4,true)] [(5,false)] [(b2,.cells [.int .i64 p.kind,p.gv,p.sv].toArray 38 (0,0)),(b3,.cells [.int .i64 q.kind,q.gv,q.sv].toArray 38 (0,0))]);kernel_rfl;(exact atks);kernel_rfl;intro r' hl')|(refine acl Tryz.func40 ?_;refine acr (ht1 _ hl'.1) ?_;rintro v' H' ⟨rfl,rfl⟩;refine apl ?_)|(refine acl Tryz.func40 ?_;refine acr (ht2 _ hl'.1) ?_;rintro v' H' ⟨rfl,rfl⟩;refine apl ?_)|exact xf|refine aw0 ?_|(refine ap2 ?_ ?_<;>try intro h)|refine aw1 ?_|(refine abx ?_;intro bb)|(refine abz ?_;intro bz)|(refine ahv ?_;intro v' hv')|(refine aac ?_;intro ac cc)|refine aw2 ?_|(refine ap4 ?_ ?_<;>try intro h)|apply True.intro)
 ((with_reducible apply fp_ret);exact res_1 rfl rfl)
 exact HR.out _ _ _ [] Takes.all ⟨rfl,rfl⟩
end Go.Proofs.YteknekiclhnkiaaGreatDoor
