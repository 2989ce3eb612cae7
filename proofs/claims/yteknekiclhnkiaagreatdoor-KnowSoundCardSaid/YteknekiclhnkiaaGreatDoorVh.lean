/- slices.CompactFunc at structs: its contract. -/
import Derived.Test.YteknekiclhnkiaaGreatDoorVg
import Derived.Test.YteknekiclhnkiaaGreatDoorMp
set_option maxHeartbeats 8000000
set_option maxRecDepth 10000
namespace Go.Proofs.YteknekiclhnkiaaGreatDoor
open Go.RowKit Sx
namespace Sx
section
variable {P : Program} {l : Option Nat} {r : Hp} {K : St} {t : List Value} {H : List Ch} {d : Option Tmp} {ty : TypeId} {pos : String} {af : Array Edge} {gd : Option (Nat × Bool)}
theorem kx_clrP {T E:TypeId} {x:Operand} {u z:Value} {sz n i:Nat} {xs:List Value} {H':List Ch} [TyE P T E] (hz:zeroB P E=some z) (hsz:decide (z.cells.size=sz)=true) (hone:z.cells.toList.all one?=true) (hx:evO t x=some (cutV u i n sz)) (hi:i<n) (ht:Take (RowC E sz u n xs) H H')
 (hk : ∀ ys,ys.take (i*sz)=xs.take (i*sz)->K (putL t d (.tuple #[])) (RowC E sz u n ys::H')):SWo P l r ⟨d,.call { callee:= .builtin .clear,args := #[x],argTypes := #[T] },ty,pos,af,gd⟩ K t H :=
 swo_run (by intro c hc;cases hc) fun w g ds ok al=>by
  have hsz':z.cells.size=sz:=by simpa using hsz
  obtain ⟨a,k,dd,rfl,hR,al'⟩:=ht.all al
  rcases hR.2 with ⟨rfl,rfl,_⟩ | ⟨b,cap,cur,rfl,rfl,h1,h2,h3,h4⟩
  · omega
  · obtain ⟨m,hm⟩ : ∃ m,n - i=m+1:=⟨n - i - 1,by omega⟩
    have hx':evO t x=some (.slice (some ⟨b,0+i*sz,none⟩) (m+1) (cap - i)):=by
     rw [hx]
     show some (Value.slice (if cap=i then some (⟨b,0,none⟩:Addr) else (some (⟨b,0,none⟩:Addr)).map fun x=>x.add (i*sz)) (n - i) (cap - i))=_
     rw [if_neg (by omega),hm,Option.map_some,add_none]
    have hzl:(Builtin.zeroCells z.cells (m+1)).toList.length=(m+1)*sz:=by
     unfold Builtin.zeroCells
     simp [hsz']
    have hzo : ∀ v∈(Builtin.zeroCells z.cells (m+1)).toList,one? v=true:=fun v hv=>by
     unfold Builtin.zeroCells at hv
     simp only [Array.toList_map,List.mem_map] at hv
     obtain ⟨q,hq,rfl⟩:=hv
     have hlt:q % z.cells.size<z.cells.size:=Nat.mod_lt _ (by
      rw [hsz']
      by_cases c:sz=0
      · subst c
        simp [hsz'] at hq
      · omega)
     rw [getElem!_pos z.cells _ hlt]
     exact List.all_eq_true.1 hone _ (by simp)
    have hcap:n*sz<=cap*sz:=Nat.mul_le_mul_right _ h1
    have hin:i*sz+(m+1)*sz=n*sz:=by rw [← Nat.add_mul];congr 1;omega
    have hco:i<cap:=by omega
    have hxl:=hR.1
    obtain ⟨w',hr,d',to⟩:=run_storeN (P:=P) (off:=0+i*sz) (Builtin.zeroCells z.cells (m+1)).toList 0 cur k ds w dd ok (by rw [hzl];omega) hzo
    refine ⟨_,w',_,_,?_,hk _ ?_,⟨_,_,d',rfl,⟨?_,.inr ⟨b,cap,_,rfl,rfl,h1,h2,by rw [setN_sz,h3],setN_put (xs:=xs) (by omega) h4 ?_⟩⟩,al'⟩,to⟩
    · rw [Nat.zero_add] at hr hx'
      simp [execOp,resolve,invoke,builtin,Builtin.clear_,ev_of hx',Sem.run_bind,Result.andThen,run_underlying (ty_slc (P:=P) (T:=T)),run_zeroValue hz,hr]
    · rw [Nat.zero_add,List.take_append_of_le_length (by rw [List.length_take];omega),List.take_take];congr 1;omega
    · simp only [List.length_append,List.length_take,List.length_drop,hzl]
      omega
    · rw [hzl]
      omega
end
theorem rowC_front {E:TypeId} {sz n m c:Nat} {a:Option Addr} {xs:List Value} (hm:m<=n) (h0:0<n) : ∀ h,RowC E sz (.slice a n c) n xs h->RowC E sz (.slice a m c) m (xs.take (m*sz)) h:=fun h hR=>by
 have hms:m*sz<=n*sz:=Nat.mul_le_mul_right _ hm
 refine ⟨by rw [List.length_take,hR.1];exact Nat.min_eq_left hms,?_⟩
 rcases hR.2 with ⟨_,e,_⟩ | ⟨b,cap,cur,hv,e,h1,h2,h3,h4⟩
 · omega
 · injection hv with e1 e2 e3
   subst e1 e3
   refine .inr ⟨b,c,cur,rfl,e,by omega,h2,h3,?_⟩
   rw [← h4,List.take_take,Nat.min_eq_left hms]
theorem cutV_0 {B n c i sz:Nat}:cutV (.slice (some ⟨B,0,none⟩) n c) (Int.toNat 0) i sz = .slice (some ⟨B,0,none⟩) i c:=by
 show Value.slice (if c=0 then some (⟨B,0,none⟩:Addr) else (some (⟨B,0,none⟩:Addr)).map fun x=>x.add (0*sz)) (i - 0) (c - 0)=_
 split<;>simp [Addr.add]
def EqBy {α:Type} (P:Program) (r:Hp) (gf:FuncId) (enc:α->List Value) (key:α->Tx) (xs:List α):Prop := ∀ x∈xs,∀ y∈xs,Tri P r gf [.agg (enc x).toArray,.agg (enc y).toArray] [] fun w H=>w = .bool (decide (key x=key y))/\H=[]
end Sx
theorem take_setV {α:Type} {l:List α} {i:Nat} {y:α} (h:i<l.length):(l.set i y).take (i+1)=l.take i++[y]:=by
 induction l generalizing i with
 | nil=>simp at h
 | cons x l ih =>
  cases i with
  | zero=>simp
  | succ i=>rw [List.set_cons_succ,List.take_succ_cons,ih (by simpa using h),List.take_succ_cons];rfl
theorem flat_takeV {α:Type} {enc:α->List Value} {sz:Nat} (he : ∀ x,(enc x).length=sz) : ∀ (l:List α) (i:Nat),(l.flatMap enc).take (i*sz)=(l.take i).flatMap enc
 | [],i=>by simp
 | x::l,0=>by simp
 | x::l,i+1=>by
  rw [List.flatMap_cons,List.take_succ_cons,List.flatMap_cons,← flat_takeV he l i,Nat.add_mul,Nat.one_mul,show i*sz+sz=(enc x).length+i*sz by rw [he];omega,List.take_length_add_append]
theorem compact1Q_any (r:Hp) (B c:Nat) (gf:FuncId) (key:QuV->Tx) (xs:List QuV) (n:Nat) (hn:xs.length=n) (h2:2<=n) (hl:n<=10000000) (hg:GoesTo Tryz.prog gf) (hone : ∀ x∈xs,(encQ x).all one?=true) (heq:EqBy Tryz.prog r gf encQ key xs):Tri Tryz.prog r 106 [.slice (some ⟨B,0,none⟩) n c,.func (.func gf) #[] #[]] [RowC 38 3 (.slice (some ⟨B,0,none⟩) n c) n (xs.flatMap encQ)] fun w H => ∃ Z ys,Z=keepTo key xs n/\w = .slice (some ⟨B,0,none⟩) Z.length c/\Z.length<=n/\ys.take (Z.length*3)=Z.flatMap encQ/\H=[RowC 38 3 (.slice (some ⟨B,0,none⟩) n c) n ys]:=by
 refine Tri.free2 fun R HR=>?_
 refine ae Tryz.func106 Tryz.ntmps106 ?_
 repeat' (first|exact xf|refine aw0 ?_|(refine ap2 ?_ ?_<;>try intro h)|refine aw1 ?_|(refine abx ?_;intro bb)|(refine abz ?_;intro bz)|(refine ahv ?_;intro v' hv')|(refine aac ?_;intro ac cc)|refine aw2 ?_|(refine ap4 ?_ ?_<;>try intro h)|apply True.intro)
 refine sw_loop (fun gm t H' => ∃ k:Nat,gm=n+1 - k/\(1<=k/\k<=n)/\(∀ i,i+1<k->key (xs.getD (i+1) default)≠key (xs.getD i default))/\(∃ G,Takes [RowC 38 3 (.slice (some ⟨B,0,none⟩) n c) n (xs.flatMap encQ)] H' G)/\Sls t 66 [(0,.slice (some ⟨B,0,none⟩) n c),(1,.func (.func gf) #[] #[]),(5,.int .i64 k)]) _ ⟨1,rfl,⟨Nat.le_refl _,by omega⟩,fun i h=>absurd h (by omega),⟨_,atks⟩,asls⟩ ?_
 rintro gm t H' ⟨k,rfl,hk,hs,⟨G,hp⟩,hs'⟩
 revert t;refine sls_all ?_;iterate 63 intro uu'
 refine sw_takeG hp ?_;clear hp
 by_cases hlt:k<n
 · have hm1:xs.getD k default∈xs:=getD_memV (by omega)
   have hm2:xs.getD (k - 1) default∈xs:=getD_memV (by omega)
   have hc:=heq _ hm1 _ hm2
   have e1:((k:Int) - 1).toNat=k - 1:=by omega
   by_cases hdup:key (xs.getD k default)=key (xs.getD (k - 1) default)
   · rw [decide_eq_true hdup] at hc
     repeat' (first|(rw [e1])|((with_reducible apply sw_lendQ (c:= .region 6 _ _) (A:=RowC 38 3 (.slice (some ⟨B,0,none⟩) n c) n (xs.flatMap encQ)));(with_reducible (exact atk));intro r1 g1 hr1 hg1 hA1;have hE1:Els r1 3 encQ (.slice (some ⟨B,0,none⟩) n c) xs:=⟨fun _=>rfl,by rw [hn];exact hA1.sl hg1⟩;have hc1:=hc.up hr1)|((with_reducible apply sw_draw (id:=6) 11 [(0,true),(1,true),(2,true),(3,true),(4,true),(5,true),(6,true),(7,true),(8,true),(9,true),(10,false)] [] []);kernel_rfl;(exact atks);kernel_rfl;intro r' hl')|((with_reducible apply kx_call (f:=gf) (cap:=[]));exact hg;rfl;rfl;exact (hc1.up hl'.1);(exact atks);rintro v' H' ⟨rfl,rfl⟩;all_goals ((try simp only [List.nil_append]);(refine apk ?_)))|exact xf|refine aw0 ?_|(refine ap2 ?_ ?_<;>try intro h)|refine aw1 ?_|(refine abx ?_;intro bb)|(refine abz ?_;intro bz)|(refine ahv ?_;intro v' hv')|(refine aac ?_;intro ac cc)|refine aw2 ?_|(refine ap4 ?_ ?_<;>try intro h)|apply True.intro)
     (with_reducible apply kx_lendC (A:=RowC 38 3 (.slice (some ⟨B,0,none⟩) n c) n (xs.flatMap encQ)));(with_reducible (exact atk));intro r1 g1 hr1 hg1 hA1;(with_reducible apply swo_pur);apply pu_sl;rfl;exact hA1.sl hg1;exact bds_sn rfl;omega;(refine apk ?_)
     simp only [Int.toNat_natCast]
     repeat' (first|refine aw0m ?_|(refine ap2 ?_ ?_<;>try intro h)|refine aw1m ?_|(refine abx ?_;intro bb)|(refine abz ?_;intro bz)|(refine ahv ?_;intro v' hv')|(refine aac ?_;intro ac cc)|refine aw2 ?_|(refine ap4 ?_ ?_<;>try intro h)|apply True.intro)
     have hkt:(keepTo key xs (k+1)).length=k:=by rw [keepTo_same (by omega) hdup,keepTo_all (by omega) hs,List.length_take];omega
     have hkt2:xs.take k=keepTo key xs (k+1):=by rw [keepTo_same (by omega) hdup,keepTo_all (by omega) hs]
     refine sw_loop (fun gm t H' => ∃ (i q:Nat) (Y:List QuV),gm=n+1 - q/\(1<=i/\i<k+q)/\(1<=q/\q<=n - k)/\(Y.length=n)/\(∀ x∈Y,x∈xs)/\((keepTo key xs (k+q)).length=i)/\(Y.take i=keepTo key xs (k+q))/\(∀ p,k+q<=p+1->Y.getD p default=xs.getD p default)/\(∃ G,Takes [RowC 38 3 (.slice (some ⟨B,0,none⟩) n c) n (Y.flatMap encQ)] H' G)/\Sls t 66 [(0,.slice (some ⟨B,0,none⟩) n c),(1,.func (.func gf) #[] #[]),(5,.int .i64 i),(6,cutV (.slice (some ⟨B,0,none⟩) n c) k n 3),(7,.int .i64 q)]) _ ⟨k,1,xs,rfl,⟨by omega,by omega⟩,⟨Nat.le_refl _,by omega⟩,hn,fun _ h=>h,hkt,hkt2,fun _ _=>rfl,⟨_,atks⟩,asls⟩ ?_
     rintro gm t H' ⟨i,q,Y,rfl,hi,hq,hYl,hmem,hki,hpre,hsuf,⟨G,hp⟩,hs'⟩
     revert t;refine sls_all ?_;iterate 61 intro uu'
     refine sw_takeG hp ?_;clear hp
     by_cases hql:q<n - k
     · repeat' (first|exact xf|refine aw0 ?_|(refine ap2 ?_ ?_<;>try intro h)|refine aw1 ?_|(refine abx ?_;intro bb)|(refine abz ?_;intro bz)|(refine ahv ?_;intro v' hv')|(refine aac ?_;intro ac cc)|refine aw2 ?_|(refine ap4 ?_ ?_<;>try intro h)|apply True.intro)
       (with_reducible apply sw_lendQ (c:= .region 11 _ _) (A:=RowC 38 3 (.slice (some ⟨B,0,none⟩) n c) n (Y.flatMap encQ)))
       (with_reducible (exact atk))
       intro r1 g1 hr1 hg1 hA1
       have hE2:Els r1 3 encQ (cutV (.slice (some ⟨B,0,none⟩) n c) k n 3) ((Y.drop k).take (n - k)):=(show Els r1 3 encQ (.slice (some ⟨B,0,none⟩) n c) Y from ⟨fun _=>rfl,by rw [hYl];exact hA1.sl hg1⟩).cut (i:=k) (j:=n) (by omega) (by omega)
       have hL2:((Y.drop k).take (n - k)).length=n - k:=(by rw [List.length_take,List.length_drop];omega)
       have hg2 : ∀ p,p<n - k->((Y.drop k).take (n - k)).getD p default=Y.getD (k+p) default:=fun p hp=>by rw [getD_take hp,getD_drop]
       have em1:xs.getD (k+q) default∈xs:=getD_memV (by omega)
       have em2:xs.getD (k+q - 1) default∈xs:=getD_memV (by omega)
       have e5:=hg2 q hql
       have e6:=hg2 (q - 1) (by omega)
       rw [hsuf (k+q) (by omega)] at e5
       rw [show k+(q - 1)=k+q - 1 by omega,hsuf (k+q - 1) (by omega)] at e6
       have hc2:=(heq _ em1 _ em2).up hr1
       have e7:((q:Int) - 1).toNat=q - 1:=by omega
       by_cases hdup2:key (xs.getD (k+q) default)=key (xs.getD (k+q - 1) default)
       · rw [decide_eq_true hdup2] at hc2
         repeat' (first|(rw [e7])|(rw [e5])|(rw [e6])|((with_reducible apply sw_draw (id:=11) 12 [(0,true),(1,true),(2,true),(3,true),(4,true),(5,true),(6,true),(7,true),(8,true),(9,true),(10,false),(11,true)] [] []);kernel_rfl;(exact atks);kernel_rfl;intro r' hl')|((with_reducible apply kx_call (f:=gf) (cap:=[]));exact hg;rfl;rfl;exact (hc2.up hl'.1);(exact atks);rintro v' H' ⟨rfl,rfl⟩;all_goals ((try simp only [List.nil_append]);(refine apk ?_)))|exact xf|refine aw0 ?_|(refine ap2 ?_ ?_<;>try intro h)|refine aw1 ?_|(refine abx ?_;intro bb)|(refine abz ?_;intro bz)|(refine ahv ?_;intro v' hv')|(refine aac ?_;intro ac cc)|refine aw2 ?_|(refine ap4 ?_ ?_<;>try intro h)|apply True.intro)
         exact ⟨_,by omega,i,q+1,Y,rfl,⟨by omega,by omega⟩,⟨by omega,by omega⟩,hYl,hmem,by rw [← Nat.add_assoc,keepTo_same (by omega) hdup2];exact hki,by rw [← Nat.add_assoc,keepTo_same (by omega) hdup2];exact hpre,fun p hp=>hsuf p (by omega),⟨_,atks⟩,asls⟩
       · rw [decide_eq_false hdup2] at hc2
         repeat' (first|(rw [e7])|(rw [e5])|(rw [e6])|((with_reducible apply sw_draw (id:=11) 12 [(0,true),(1,true),(2,true),(3,true),(4,true),(5,true),(6,true),(7,true),(8,true),(9,true),(10,false),(11,true)] [] []);kernel_rfl;(exact atks);kernel_rfl;intro r' hl')|((with_reducible apply kx_call (f:=gf) (cap:=[]));exact hg;rfl;rfl;exact (hc2.up hl'.1);(exact atks);rintro v' H' ⟨rfl,rfl⟩;all_goals ((try simp only [List.nil_append]);(refine apk ?_)))|exact xf|refine aw0 ?_|(refine ap2 ?_ ?_<;>try intro h)|refine aw1 ?_|(refine abx ?_;intro bb)|(refine abz ?_;intro bz)|(refine ahv ?_;intro v' hv')|(refine aac ?_;intro ac cc)|refine aw2 ?_|(refine ap4 ?_ ?_<;>try intro h)|apply True.intro)
         (with_reducible apply kx_lendC (A:=RowC 38 3 (.slice (some ⟨B,0,none⟩) n c) n (Y.flatMap encQ)));(with_reducible (exact atk));intro r2 g2 hr2 hg2 hA2;have hE3:Els r2 3 encQ (cutV (.slice (some ⟨B,0,none⟩) n c) k n 3) ((Y.drop k).take (n - k)):=(show Els r2 3 encQ (.slice (some ⟨B,0,none⟩) n c) Y from ⟨fun _=>rfl,by rw [hYl];exact hA2.sl hg2⟩).cut (i:=k) (j:=n) (by omega) (by omega)
         (with_reducible apply swo_pur);apply pu_ix;rfl;exact hE3.sl;rfl;omega;(refine apk ?_)
         repeat' (first|refine aw0m ?_|(refine ap2 ?_ ?_<;>try intro h)|refine aw1m ?_|(refine abx ?_;intro bb)|(refine abz ?_;intro bz)|(refine ahv ?_;intro v' hv')|(refine aac ?_;intro ac cc)|refine aw2 ?_|(refine ap4 ?_ ?_<;>try intro h)|apply True.intro)
         (with_reducible apply kx_lendC (A:=RowC 38 3 (.slice (some ⟨B,0,none⟩) n c) n (Y.flatMap encQ)));(with_reducible (exact atk));intro r2 g2 hr2 hg2 hA2;have hE3:Els r2 3 encQ (cutV (.slice (some ⟨B,0,none⟩) n c) k n 3) ((Y.drop k).take (n - k)):=(show Els r2 3 encQ (.slice (some ⟨B,0,none⟩) n c) Y from ⟨fun _=>rfl,by rw [hYl];exact hA2.sl hg2⟩).cut (i:=k) (j:=n) (by omega) (by omega)
         (with_reducible apply swo_pur);apply pu_ldE (sz:=3);rfl;exact hE3;omega;infer_instance;(refine apk ?_)
         simp only [Int.toNat_natCast]
         rw [e5]
         have hz1:=hone _ em1
         repeat' (first|((with_reducible apply kx_stE (sz:=3) (enc:=encQ));exact fun _=>rfl;rfl;exact ty_size;rfl;rfl;(exact atk);assumption;(omega);(refine apk ?_))|exact xf|refine aw0 ?_|(refine ap2 ?_ ?_<;>try intro h)|refine aw1 ?_|(refine abx ?_;intro bb)|(refine abz ?_;intro bz)|(refine ahv ?_;intro v' hv')|(refine aac ?_;intro ac cc)|refine aw2 ?_|(refine ap4 ?_ ?_<;>try intro h)|apply True.intro)
         simp only [Int.toNat_natCast]
         exact ⟨_,by omega,i+1,q+1,Y.set i (xs.getD (k+q) default),rfl,⟨by omega,by omega⟩,⟨by omega,by omega⟩,by rw [List.length_set];exact hYl,fun x hx=>(by
          rcases List.mem_or_eq_of_mem_set hx with hx|rfl
          · exact hmem x hx
          · exact em1),by rw [← Nat.add_assoc,keepTo_new fun _=>hdup2,List.length_append,hki];rfl,by rw [← Nat.add_assoc,keepTo_new fun _=>hdup2,take_setV (by omega),hpre],fun p hp=>(by
          rw [List.getD_eq_getElem?_getD,List.getElem?_set_ne (by omega),← List.getD_eq_getElem?_getD];exact hsuf p (by omega)),⟨_,atks⟩,asls⟩
     · repeat' (first|exact xf|refine aw0 ?_|(refine ap2 ?_ ?_<;>try intro h)|refine aw1 ?_|(refine abx ?_;intro bb)|(refine abz ?_;intro bz)|(refine ahv ?_;intro v' hv')|(refine aac ?_;intro ac cc)|refine aw2 ?_|(refine ap4 ?_ ?_<;>try intro h)|apply True.intro)
       (with_reducible apply kx_lendC (A:=RowC 38 3 (.slice (some ⟨B,0,none⟩) n c) n (Y.flatMap encQ)));(with_reducible (exact atk));intro r1 g1 hr1 hg1 hA1;have hS1:Sl r1 3 (.slice (some ⟨B,0,none⟩) n c) n (Y.flatMap encQ):=hA1.sl hg1;(with_reducible apply swo_pur);apply pu_sl;rfl;exact hS1;exact bds_sn rfl;omega;(refine apk ?_)
       simp only [Int.toNat_natCast]
       repeat' (first|refine aw0m ?_|(refine ap2 ?_ ?_<;>try intro h)|refine aw1m ?_|(refine abx ?_;intro bb)|(refine abz ?_;intro bz)|(refine ahv ?_;intro v' hv')|(refine aac ?_;intro ac cc)|refine aw2 ?_|(refine ap4 ?_ ?_<;>try intro h)|apply True.intro)
       (with_reducible apply kx_clrP (i:=i) (sz:=3));exact ty_zero;rfl;rfl;rfl;omega;(with_reducible (exact atk));intro ys hys;(refine apk ?_)
       repeat' (first|refine aw0m ?_|(refine ap2 ?_ ?_<;>try intro h)|refine aw1m ?_|(refine abx ?_;intro bb)|(refine abz ?_;intro bz)|(refine ahv ?_;intro v' hv')|(refine aac ?_;intro ac cc)|refine aw2 ?_|(refine ap4 ?_ ?_<;>try intro h)|apply True.intro)
       (with_reducible apply kx_lendC (A:=RowC 38 3 (.slice (some ⟨B,0,none⟩) n c) n ys));(with_reducible (exact atk));intro r1 g1 hr1 hg1 hA1;have hS1:Sl r1 3 (.slice (some ⟨B,0,none⟩) n c) n ys:=hA1.sl hg1;(with_reducible apply swo_pur);apply pu_sl;rfl;exact hS1;exact bds_ns rfl;omega;(refine apk ?_)
       simp only [Int.toNat_natCast]
       repeat' (first|refine aw0m ?_|(refine ap2 ?_ ?_<;>try intro h)|refine aw1m ?_|(refine abx ?_;intro bb)|(refine abz ?_;intro bz)|(refine ahv ?_;intro v' hv')|(refine aac ?_;intro ac cc)|refine aw2 ?_|(refine ap4 ?_ ?_<;>try intro h)|apply True.intro)
       rw [flat_takeV (enc:=encQ) (sz:=3) (fun _=>rfl),hpre,show k+q=n by omega] at hys
       rw [show k+q=n by omega] at hki
       ((with_reducible apply fp_ret);exact res_1 rfl rfl)
       exact HR.out _ _ _ [_] atks ⟨_,ys,rfl,by rw [hki];exact cutV_0,by omega,by rw [hki];exact hys,rfl⟩
   · rw [decide_eq_false hdup] at hc
     repeat' (first|(rw [e1])|((with_reducible apply sw_lendQ (c:= .region 6 _ _) (A:=RowC 38 3 (.slice (some ⟨B,0,none⟩) n c) n (xs.flatMap encQ)));(with_reducible (exact atk));intro r1 g1 hr1 hg1 hA1;have hE1:Els r1 3 encQ (.slice (some ⟨B,0,none⟩) n c) xs:=⟨fun _=>rfl,by rw [hn];exact hA1.sl hg1⟩;have hc1:=hc.up hr1)|((with_reducible apply sw_draw (id:=6) 11 [(0,true),(1,true),(2,true),(3,true),(4,true),(5,true),(6,true),(7,true),(8,true),(9,true),(10,false)] [] []);kernel_rfl;(exact atks);kernel_rfl;intro r' hl')|((with_reducible apply kx_call (f:=gf) (cap:=[]));exact hg;rfl;rfl;exact (hc1.up hl'.1);(exact atks);rintro v' H' ⟨rfl,rfl⟩;all_goals ((try simp only [List.nil_append]);(refine apk ?_)))|exact xf|refine aw0 ?_|(refine ap2 ?_ ?_<;>try intro h)|refine aw1 ?_|(refine abx ?_;intro bb)|(refine abz ?_;intro bz)|(refine ahv ?_;intro v' hv')|(refine aac ?_;intro ac cc)|refine aw2 ?_|(refine ap4 ?_ ?_<;>try intro h)|apply True.intro)
     exact ⟨_,by omega,k+1,rfl,⟨by omega,by omega⟩,fun i h1=>(by
      by_cases e:i+1=k
      · rw [e,show i=k - 1 by omega];exact hdup
      · exact hs i (by omega)),⟨_,atks⟩,asls⟩
 · obtain rfl:k=n:=by omega
   repeat' (first|exact xf|refine aw0 ?_|(refine ap2 ?_ ?_<;>try intro h)|refine aw1 ?_|(refine abx ?_;intro bb)|(refine abz ?_;intro bz)|(refine ahv ?_;intro v' hv')|(refine aac ?_;intro ac cc)|refine aw2 ?_|(refine ap4 ?_ ?_<;>try intro h)|apply True.intro)
   have hk1:keepTo key xs k=xs:=by rw [keepTo_all (by omega) hs,← hn,List.take_length]
   ((with_reducible apply fp_ret);exact res_1 rfl rfl)
   exact HR.out _ _ _ [_] atks ⟨_,_,rfl,by rw [hk1,hn],by rw [hk1,hn];exact Nat.le_refl _,by rw [hk1,List.take_of_length_le (by rw [flat_len (sz:=3) (fun _=>rfl)];exact Nat.le_refl _)],rfl⟩
theorem compact2Q_any (r:Hp) (B c:Nat) (gf:FuncId) (key:QuV->Tx) (xs:List QuV) (n:Nat) (hn:xs.length=n) (h2:2<=n) (hl:n<=10000000) (hg:GoesTo Tryz.prog gf) (hone : ∀ x∈xs,(encQ x).all one?=true) (heq:EqBy Tryz.prog r gf encQ key xs):Tri Tryz.prog r 106 [.slice (some ⟨B,0,none⟩) n c,.func (.func gf) #[] #[]] [RowC 38 3 (.slice (some ⟨B,0,none⟩) n c) n (xs.flatMap encQ)] fun w H => ∃ Z,Z=keepTo key xs n/\w = .slice (some ⟨B,0,none⟩) Z.length c/\H=[RowC 38 3 (.slice (some ⟨B,0,none⟩) Z.length c) Z.length (Z.flatMap encQ)] :=
 tri_cv (compact1Q_any r B c gf key xs n hn h2 hl hg hone heq) fun v H ⟨Z,ys,hZ,hv,hle,hys,hH⟩=>⟨[RowC 38 3 (.slice (some ⟨B,0,none⟩) Z.length c) Z.length (Z.flatMap encQ)],⟨Z,hZ,hv,rfl⟩,fun g hg=>by
  subst hH
  refine all_imp (fun h e=>?_) hg
  have:=rowC_front (m:=Z.length) hle (by omega) h e
  rwa [hys] at this⟩
theorem compactFQ_tri (r:Hp) (a:Option Addr) (c:Nat) (gf:FuncId) (key:QuV->Tx) (xs:List QuV) (hl:xs.length<=10000000) (hg:GoesTo Tryz.prog gf) (hone : ∀ x∈xs,(encQ x).all one?=true) (heq:EqBy Tryz.prog r gf encQ key xs):Tri Tryz.prog r 106 [.slice a xs.length c,.func (.func gf) #[] #[]] [RowC 38 3 (.slice a xs.length c) xs.length (xs.flatMap encQ)] fun w H => ∃ Z,Z=keepTo key xs xs.length/\w = .slice a Z.length c/\H=[RowC 38 3 (.slice a Z.length c) Z.length (Z.flatMap encQ)]:=by
 by_cases h0:2<=xs.length
 · refine tri_rowF (args:=fun a c=>[.slice a xs.length c,.func (.func gf) #[] #[]]) (by omega) fun B ha=>?_
   subst ha
   exact compact2Q_any r B c gf key xs xs.length rfl h0 hl hg hone heq
 · have hk1:keepTo key xs xs.length=xs:=by rw [keepTo_all (Nat.le_refl _) (fun i hi=>absurd hi (by omega)),List.take_length]
   refine Tri.free2 fun R HR=>?_
   refine ae Tryz.func106 Tryz.ntmps106 ?_
   repeat' (first|exact xf|refine aw0 ?_|(refine ap2 ?_ ?_<;>try intro h)|refine aw1 ?_|(refine abx ?_;intro bb)|(refine abz ?_;intro bz)|(refine ahv ?_;intro v' hv')|(refine aac ?_;intro ac cc)|refine aw2 ?_|(refine ap4 ?_ ?_<;>try intro h)|apply True.intro)
   ((with_reducible apply fp_ret);exact res_1 rfl rfl)
   exact HR.out _ _ _ [_] atks ⟨_,rfl,by rw [hk1],by rw [hk1]⟩
end Go.Proofs.YteknekiclhnkiaaGreatDoor
