/- strings.Builder: String, Grow; strings.Join: their contracts. -/
import Derived.Test.YteknekiclhnkiaaGreatDoorUf
import Derived.Lib.UnsafeStr
import Derived.Lib.MakeNoZero
set_option maxHeartbeats 4000000
set_option maxRecDepth 10000
namespace Go.Proofs.YteknekiclhnkiaaGreatDoor
open Go.RowKit
namespace Sx
section
variable {P : Program} {l : Option Nat} {r : Hp} {Q : Exit → St} {K : St} {t : List Value} {H : List Ch} {d : Option Tmp} {ty : TypeId} {pos : String} {af : Array Edge} {gd : Option (Nat × Bool)} {v : Value}
theorem kx_uData {E:TypeId} {ts:Array TypeId} {x:Operand} {a:Option Addr} {sz n c:Nat} {xs:List Value} {H':List Ch} (hx:evO t x=some (.slice a n c)) (ht:Take (RowC E sz (.slice a n c) n xs) H H') (h0:0<n)
 (hk:K (putL t d (.pointer a)) H):SWo P l r ⟨d,.call { callee:= .builtin .unsafeSliceData,args := #[x],argTypes:=ts },ty,pos,af,gd⟩ K t H :=
 swo_run (fun c hc=>by cases hc) fun w g0 ds ok al=>by
  obtain ⟨g,k,dd,rfl,hR,al'⟩:=ht.all al
  rcases hR.2 with ⟨e,_⟩ | ⟨b,cap,cur,e,_,h1,_⟩
  · injection e with _ e2
    omega
  · injection e with e1 e2 e3
    subst e1;subst e3
    have hr:=Lib.run_unsafeSliceData_row (P:=P) w ts ty ⟨b,0,none⟩ n c (by omega)
    have ex:evalL t x=_:=ev_of hx
    refine ⟨_,w,H,_,?_,hk,al,To.refl ok⟩
    simp [execOp,resolve,Result.andThen,invoke,BigFrame.builtin_unsafeSliceData,ex,hr]
theorem kx_uDataN {ts:Array TypeId} {x:Operand} {n c:Nat} (hx:evO t x=some (.slice none n c)) (hk:K (putL t d (.pointer none)) H):SWo P l r ⟨d,.call { callee:= .builtin .unsafeSliceData,args := #[x],argTypes:=ts },ty,pos,af,gd⟩ K t H :=
 swo_run (fun c hc=>by cases hc) fun w g0 ds ok al=>by
  have hr:=Lib.run_unsafeSliceData_nil (P:=P) w ts ty n c
  have ex:evalL t x=_:=ev_of hx
  refine ⟨_,w,H,_,?_,hk,al,To.refl ok⟩
  simp [execOp,resolve,Result.andThen,invoke,BigFrame.builtin_unsafeSliceData,ex,hr]
theorem kx_uStrN {T I:TypeId} {x y:Operand} (hx:evO t x=some (.pointer none)) (hy:evO t y=some (.int .i64 0)) (hk:K (putL t d (.string (bs []))) H):SWo P l r ⟨d,.call { callee:= .builtin .unsafeString,args := #[x,y],argTypes := #[T,I] },ty,pos,af,gd⟩ K t H :=
 swo_run (fun c hc=>by cases hc) fun w g0 ds ok al=>by
  have hr:=Lib.run_unsafeString_none (P:=P) w T I ty none
  have ex:evalL t x=_:=ev_of hx
  have ey:evalL t y=_:=ev_of hy
  refine ⟨_,w,H,_,?_,hk,al,To.refl ok⟩
  simp [execOp,resolve,Result.andThen,invoke,BigFrame.builtin_unsafeString,ex,ey,hr]
  rfl
theorem kx_uStr {T I E:TypeId} {x y:Operand} {a:Option Addr} {c:Nat} {bl:List UInt8} {H':List Ch} (hp:P.underlying T=some (.pointer E)) (hc:P.cellsOf E=1) (hx:evO t x=some (.pointer a)) (hy:evO t y=some (.int .i64 (bl.length:Nat))) (ht:Take (RowC E 1 (.slice a bl.length c) bl.length (u8s bl)) H H') (h0:bl≠[]) (hl:bl.length<=1000000000)
 (hk:K (putL t d (.string (bs bl))) H'):SWo P l r ⟨d,.call { callee:= .builtin .unsafeString,args := #[x,y],argTypes := #[T,I] },ty,pos,af,gd⟩ K t H :=
 swo_run (fun c hc=>by cases hc) fun w g0 ds ok al=>by
  obtain ⟨g,k,dd,rfl,hR,al'⟩:=ht.all al
  have hpos:0<bl.length:=List.length_pos_iff.2 h0
  rcases hR.2 with ⟨e,_⟩ | ⟨b,cap,cur,e,e4,h1,h2,h3,h4⟩
  · injection e with _ e2
    omega
  · injection e with e1 e2 e3
    subst e1;subst e3;subst e4
    have hgb:w.heap[b]?=some (.cells cur E (0,0)):=ok.emb.left b _ one_same
    have hsh:w.shape? b=some (E,cur.size):=by simp [World.shape?,hgb]
    have hkb:k b=none:=(dd b).resolve_left (by simp [one])
    have hcell : ∀ j x,bl[j]?=some x->w.cell? ((⟨b,0,none⟩:Addr).add j)=some (.int .u8 x.toNat):=fun j x hj=>by
     rw [Addr.add_lit]
     unfold World.cell?
     rw [hgb]
     simp only [Option.isSome_none,Bool.false_eq_true,if_false,Nat.zero_add]
     have hjl:=(List.getElem?_eq_some_iff.1 hj).1
     have h5:(u8s bl)[j]?=some (.int .u8 x.toNat):=by unfold u8s;rw [List.getElem?_map,hj];rfl
     rw [← h4,List.getElem?_take,if_pos (by omega)] at h5
     rw [← Array.getElem?_toList];exact h5
    have hr:=Lib.run_unsafeString_row (P:=P) w T I ty E hp hc b cur.size hsh bl h0 (by omega) (by omega) hcell
    have ex:evalL t x=_:=ev_of hx
    have ey:evalL t y=_:=ev_of hy
    have hf:w.freeze ⟨b,0,none⟩ bl.length={ w with heap:=w.heap.modify b fun
     | .cells c elem (lo,hi)=> .cells c elem (if lo == hi then (0,0+bl.length) else (min lo 0,max hi (0+bl.length)))
     | o=>o }:=by unfold World.freeze;rw [if_neg (by omega)];rfl
    have hoth : ∀ j,j≠b->(w.freeze ⟨b,0,none⟩ bl.length).heap[j]?=w.heap[j]?:=fun j hj=>by
     rw [hf]
     simp [Array.getElem?_modify,Ne.symm hj]
    refine ⟨_,_,_,k,?_,hk,al',To.step ok (by rw [hf]) (by rw [hf]) (by rw [hf]) (by rw [hf];simp) (fun j hj hn=>hoth j fun e=>?_) (fun j o ho=>?_) (fun j hj=> .inl (un_ne.2 (.inr hj)))⟩
    · simp [execOp,resolve,Result.andThen,invoke,BigFrame.builtin_unsafeString,ex,ey,hr]
      rfl
    · subst e
      have:=(un_none.1 hn).1
      simp [one] at this
    · rw [hoth j fun e=>by subst e;rw [hkb] at ho;cases ho]
      exact ok.emb.right dd j o ho
theorem kx_noZero {f : FuncId} {fn : Func} {T E : TypeId} {ps : Array TypeId} {x : Operand} {ts : Array TypeId} {n : Nat} (hf : P.funcs[f]? = some fn) (h1 : (fn.name == "runtime.NumGoroutine") = false) (h2 : fn.body.isNone = true) (h3 : Extern.findNext fn = none) (h4 : Extern.find fn = some (Extern.BytealgMakeNoZero.makeNoZero ps #[T])) (hT : elB P T = some E) (hx : evO t x = some (.int .i64 (n : Nat))) (hn : n ≤ 1000000000)
 (hk : ∀ b c,n<=c->K (putL t d (.slice (some ⟨b,0,none⟩) n c)) (RowC E 1 (.slice (some ⟨b,0,none⟩) 0 c) 0 []::H)):SWo P l r ⟨d,.call { callee:= .value (.func f),args := #[x],argTypes:=ts },ty,pos,af,gd⟩ K t H :=
 swo_run (fun c hc=>by cases hc) fun w g ds ok al=>by
  obtain ⟨cs,hr0,hcs,hm⟩:=Lib.run_makeNoZero (P:=P) w ps T E (elB_s hT) n (by omega)
  have hr:=run_callFunc_extern hf h1 h2 h3 h4 #[.int .i64 (n:Nat)] w
  rw [hr0] at hr
  have e1:evalL t x=_:=ev_of hx
  have e2:evalL t (.func f) = .func (.func f) #[] #[]:=rfl
  have hgB:g w.heap.size=none:=by
   cases e:g w.heap.size with
   | none=>rfl
   | some o=>have:=ok.emb.lt (b:=w.heap.size) (by simp [e]);omega
  have hmx:cs.size<=maxLen:=hm (by unfold maxLen;omega)
  refine ⟨_,w.drew.drew.alloc (.cells cs E),_,un (one w.heap.size (.cells cs E (0,0))) g,?_,hk w.heap.size cs.size hcs,⟨_,g,?_,rfl,⟨rfl,.inr ⟨w.heap.size,_,cs,rfl,rfl,Nat.zero_le _,hmx,by rw [Nat.mul_one],by simp⟩⟩,al⟩,To.step ok rfl rfl rfl (by simp) (fun j hj hn=>?_) (Emb.un ?_ ?_) (fun j hj=>?_)⟩
  · simp [execOp,resolve,Deferred.ofValue,invoke,e1,e2,Result.andThen,hr]
  · intro j
    by_cases e:j=w.heap.size
    · subst e;exact .inr hgB
    · exact .inl (by simp [one,e])
  · exact heap_alloc_old w.drew.drew _ j hj
  · intro j o ho
    obtain ⟨rfl,rfl⟩:=one_some ho
    exact heap_alloc_new w.drew.drew _
  · intro j o ho
    have hjl:=ok.emb.lt (b:=j) (by simp [ho])
    rw [heap_alloc_old w.drew.drew _ j hjl]
    exact ok.emb j o ho
  · rcases un_ne.1 hj with h|h
    · right
      by_cases e:j=w.heap.size
      · omega
      · simp [one,e] at h
    · exact .inl h
theorem pu_slP {T E:TypeId} {m:Nat} {x y:Operand} {b n c:Nat} (hT:elB P T=some E) (hE:sizeB P E=some m) (hx:evO t x=some (.slice (some ⟨b,0,none⟩) n c)) (hy:evO t y=some (.int .i64 0)):Pur P r t ⟨d,.slice T x none (some y) none,ty,pos,af,gd⟩ (.slice (some ⟨b,0,none⟩) 0 c) :=
 ⟨rfl,fun w _=>by
  simp [execOp,Instr.sliceAt,Instr.slice,Instr.sliceBounds,Instr.sliceBound,asIntOf,ev_of hx,ev_of hy,Sem.run_bind,Result.andThen,run_underlying (elB_s hT),run_sizeOf hE,Addr.add]⟩
theorem pu_quoP {T T':TypeId} {x y:Operand} {k:IntKind} {a b q:Int} (hx:evO t x=some (.int k a)) (hy:evO t y=some (.int k b)) (hb:b≠0) (hq:a.tdiv b=q) (hr:inR k q):Pur P r t ⟨d,.binOp .quo T x y T',ty,pos,af,gd⟩ (.int k q) :=
 ⟨rfl,fun w _=>by simp [execOp,ev_of hx,ev_of hy,eqGuard,binOp,Op.intDiv,Sem.run_pure,hb,hq,inR_wrap hr]⟩
theorem pu_copy0 {T E:TypeId} {m:Nat} {x y:Operand} {b c:Nat} (hT:elB P T=some E) (hE:sizeB P E=some m) (hx:evO t x=some (.slice (some ⟨b,0,none⟩) 0 c)) (hy:evO t y=some (.slice none 0 0)):Pur P r t ⟨d,.call { callee:= .builtin .copy,args := #[x,y],argTypes := #[T,T] },ty,pos,af,gd⟩ (.int .i64 0) :=
 ⟨rfl,fun w _=>by
  have e1:evalL t x=_:=ev_of hx
  have e2:evalL t y=_:=ev_of hy
  simp [execOp,resolve,invoke,builtin,Builtin.copy_,Builtin.lenOf,Builtin.firstCells,loadCells,storeCells,goInt,Sem.run_bind,e1,e2,Result.andThen,run_underlying (elB_s hT),run_sizeOf hE]⟩
end
end Sx
open Sx
theorem bstr_any (r:Hp) (b c:Nat) (p a:Option Addr) (bl:List UInt8) (h0:bl≠[]) (hl:bl.length<=1000000000):Tri Tryz.prog r 118 [.pointer (some ⟨b,0,none⟩)] [bldC b p (.slice a bl.length c),U8R (.slice a bl.length c) bl] fun w H=>w = .string (bs bl)/\H=[]:=by
 refine Tri.free2 fun R HR=>?_
 have hpos:0<bl.length:=List.length_pos_iff.2 h0
 refine ae Tryz.func118 Tryz.ntmps118 ?_
 repeat' (first|((with_reducible apply sw_draw (id:=1) 11 [(0,true),(1,true),(2,true),(3,true),(5,true),(6,true),(7,true),(8,true),(9,true),(4,false),(10,false)] [(11,false)] [(b,.cells [.pointer p,.slice a bl.length c].toArray 163 (0,0))]);kernel_rfl;(exact atks);kernel_rfl;intro r' hl')|((with_reducible apply kx_uData (E:=5) (sz:=1) (xs:=u8s bl));rfl;(exact atk);exact hpos;(refine apk ?_))|((with_reducible apply kx_uStr (T:=188) (E:=5) (bl:=bl));exact Tryz.underlying188;kernel_rfl;rfl;rfl;(exact atk);exact h0;exact hl;(refine apk ?_))|((with_reducible refine swo_kit ?_ ?_);rfl;intro w ds K' hK;gi_big_op;(with_reducible refine hK _ ?_);clear hK K' ds w)|exact xf|refine aw0 ?_|(refine ap2 ?_ ?_<;>try intro h)|refine aw1 ?_|(refine abx ?_;intro bb)|(refine abz ?_;intro bz)|(refine ahv ?_;intro v' hv')|(refine aac ?_;intro ac cc)|refine aw2 ?_|(refine ap4 ?_ ?_<;>try intro h)|apply True.intro)
 ((with_reducible apply fp_ret);exact res_1 rfl rfl)
 exact HR.out _ _ _ [] Takes.all ⟨rfl,rfl⟩
theorem bstr0_any (r:Hp) (b:Nat) (p:Option Addr):Tri Tryz.prog r 118 [.pointer (some ⟨b,0,none⟩)] [bldC b p (.slice none 0 0)] fun w H=>w = .string (bs [])/\H=[]:=by
 refine Tri.free2 fun R HR=>?_
 refine ae Tryz.func118 Tryz.ntmps118 ?_
 repeat' (first|((with_reducible apply sw_draw (id:=1) 11 [(0,true),(1,true),(2,true),(3,true),(5,true),(6,true),(7,true),(8,true),(9,true),(4,false),(10,false)] [(11,false)] [(b,.cells [.pointer p,.slice none 0 0].toArray 163 (0,0))]);kernel_rfl;(exact atks);kernel_rfl;intro r' hl')|((with_reducible apply kx_uDataN);rfl;(refine apk ?_))|((with_reducible apply kx_uStrN);rfl;rfl;(refine apk ?_))|((with_reducible refine swo_kit ?_ ?_);rfl;intro w ds K' hK;gi_big_op;(with_reducible refine hK _ ?_);clear hK K' ds w)|exact xf|refine aw0 ?_|(refine ap2 ?_ ?_<;>try intro h)|refine aw1 ?_|(refine abx ?_;intro bb)|(refine abz ?_;intro bz)|(refine ahv ?_;intro v' hv')|(refine aac ?_;intro ac cc)|refine aw2 ?_|(refine ap4 ?_ ?_<;>try intro h)|apply True.intro)
 ((with_reducible apply fp_ret);exact res_1 rfl rfl)
 exact HR.out _ _ _ [] Takes.all ⟨rfl,rfl⟩
theorem wstrU_any (r:Hp) (b c:Nat) (p a:Option Addr) (s l:List UInt8) (hp:p=none\/p=some ⟨b,0,none⟩) (hn:l.length+s.length<=1000000000):Tri Tryz.prog r 116 [.pointer (some ⟨b,0,none⟩),.string (bs s)] [bldC b p (.slice a l.length c),U8R (.slice a l.length c) l] fun _ H => ∃ a' c',H=[bldC b (some ⟨b,0,none⟩) (.slice a' (l++s).length c'),U8R (.slice a' (l++s).length c') (l++s)]:=by
 refine (wstr_any r b l.length c p a s (u8s l) hp hn).mono ?_
 rintro w H ⟨a',c',rfl⟩
 refine ⟨a',c',?_⟩
 have e:u8s (l++s)=u8s l++u8s s:=by unfold u8s;rw [List.map_append]
 show _=[bldC b (some ⟨b,0,none⟩) (.slice a' (l++s).length c'),RowC _ 1 (.slice a' (l++s).length c') (l++s).length (u8s (l++s))]
 rw [e,List.length_append]
theorem bgrow_any (r:Hp) (b n:Nat) (hn:n<=1000000000):Tri Tryz.prog r 146 [.pointer (some ⟨b,0,none⟩),.int .i64 (n:Nat)] [bldC b (some ⟨b,0,none⟩) (.slice none 0 0)] fun _ H => ∃ a c,H=[bldC b (some ⟨b,0,none⟩) (.slice a 0 c),U8R (.slice a 0 c) []]:=by
 refine Tri.free2 fun R HR=>?_
 refine ae Tryz.func146 Tryz.ntmps146 ?_
 repeat' (first|(rw [show (2*((0:Nat):Int)+(n:Nat):Int)=((n:Nat):Int) by omega])|((with_reducible apply sw_draw (id:=0) 15 [(0,true),(1,true),(2,true),(3,true),(4,true),(5,true),(6,true),(7,true),(9,true),(10,true),(11,true),(12,true),(13,true),(8,false),(14,true)] [(15,false)] [(b,.cells [.pointer (some ⟨b,0,none⟩),.slice none 0 0].toArray 163 (0,0))]);kernel_rfl;(exact atks);kernel_rfl;intro r' hl')|((with_reducible apply kx_noZero (f:=170) (n:=n) (ps := #[3]) (T:=29) (E:=5));exact Tryz.func170;kernel_rfl;kernel_rfl;kernel_rfl;kernel_rfl;exact ty_el;rfl;exact hn;intro b7 c7 hc7;(refine apk ?_))|((with_reducible apply swo_pur);(with_reducible apply pu_slP (T:=29) (E:=5) (m:=1));exact ty_el;exact ty_size;rfl;rfl;(refine apk ?_))|((with_reducible apply swo_pur);(with_reducible apply pu_copy0 (T:=29) (E:=5) (m:=1));exact ty_el;exact ty_size;rfl;rfl;(refine apk ?_))|((with_reducible refine swo_kit ?_ ?_);rfl;intro w ds K' hK;gi_big_op;(with_reducible refine hK _ ?_);clear hK K' ds w)|exact xf|refine aw0 ?_|(refine ap2 ?_ ?_<;>try intro h)|refine aw1 ?_|(refine abx ?_;intro bb)|(refine abz ?_;intro bz)|(refine ahv ?_;intro v' hv')|(refine aac ?_;intro ac cc)|refine aw2 ?_|(refine ap4 ?_ ?_<;>try intro h)|apply True.intro)
 ((with_reducible apply fp_end);exact res_0 rfl)
 exact HR.out _ _ _ [_,_] atks ⟨some ⟨b7,0,none⟩,c7,rfl⟩
theorem bGrow_any (r:Hp) (b n:Nat) (h0:0<n) (hn:n<=1000000000):Tri Tryz.prog r 119 [.pointer (some ⟨b,0,none⟩),.int .i64 (n:Nat)] [bldC b none (.slice none 0 0)] fun _ H => ∃ a c,H=[bldC b (some ⟨b,0,none⟩) (.slice a 0 c),U8R (.slice a 0 c) []]:=by
 refine Tri.free2 fun R HR=>?_
 have hc:=bcheck_any r b none (.slice none 0 0) (.inl rfl) rfl
 have hg:=bgrow_any r b n hn
 refine ae Tryz.func119 Tryz.ntmps119 ?_
 repeat' (first|(refine acl Tryz.func144 ?_;refine acr (hc) ?_;rintro v' H' rfl;all_goals refine apl ?_)|((with_reducible apply sw_draw (id:=3) 13 [(0,true),(1,true),(2,true),(3,true),(4,true),(5,true),(6,true),(7,true),(8,true),(9,true),(10,true),(11,true),(12,true)] [] [(b,.cells [.pointer (some ⟨b,0,none⟩),.slice none 0 0].toArray 163 (0,0))]);kernel_rfl;(exact atks);kernel_rfl;intro r' hl')|(refine acl Tryz.func146 ?_;refine acr (hg) ?_;rintro v' H' ⟨a,c,rfl⟩;refine apl ?_)|((with_reducible refine swo_kit ?_ ?_);rfl;intro w ds K' hK;gi_big_op;(with_reducible refine hK _ ?_);clear hK K' ds w)|exact xf|refine aw0 ?_|(refine ap2 ?_ ?_<;>try intro h)|refine aw1 ?_|(refine abx ?_;intro bb)|(refine abz ?_;intro bz)|(refine ahv ?_;intro v' hv')|(refine aac ?_;intro ac cc)|refine aw2 ?_|(refine ap4 ?_ ?_<;>try intro h)|apply True.intro)
 ((with_reducible apply fp_end);exact res_0 rfl)
 exact HR.out _ _ _ [_,_] atks ⟨a,c,rfl⟩
def lensT:List Tx->Nat
 | []=>0
 | s::l=>s.length+lensT l
theorem lensT_app : ∀ l m:List Tx,lensT (l++m)=lensT l+lensT m
 | [],m=>by simp [lensT]
 | x::l,m=>by simp only [List.cons_append,lensT,lensT_app l m];omega
theorem lensT_mem {s:Tx} : ∀ {l:List Tx},s∈l->s.length<=lensT l
 | x::l,h=>by
  rcases List.mem_cons.1 h with rfl|h
  · simp only [lensT];omega
  · have:=lensT_mem h;simp only [lensT];omega
theorem flat_sep (c:UInt8) : ∀ l:List Tx,(l.flatMap (c :: ·)).length=lensT l+l.length
 | []=>rfl
 | x::l=>by rw [List.flatMap_cons,List.length_append,List.length_cons,flat_sep c l];simp only [lensT,List.length_cons];omega
theorem join_any (r:Hp) (v:Value) (c:UInt8) (gs:List Tx) (hv:Els r 1 encTx v gs) (hl:lensT gs<=100000000) (hn:gs.length<=100000000):Tri Tryz.prog r 74 [v,.string (bs [c])] [] fun w H=>w = .string (bs (joinB c gs))/\H=[]:=by
 refine Tri.free2 fun R HR=>?_
 have hvl:=hv.2.2.1
 rcases (by omega:gs.length=0\/gs.length=1\/2<=gs.length) with h0|h1|h2
 · obtain rfl:gs=[]:=List.length_eq_zero_iff.1 h0
   have hl0:([]:List Tx).length=0:=rfl
   refine ae Tryz.func74 Tryz.ntmps74 ?_
   repeat' (first|exact xf|refine aw0 ?_|(refine ap2 ?_ ?_<;>try intro h)|refine aw1 ?_|(refine abx ?_;intro bb)|(refine abz ?_;intro bz)|(refine ahv ?_;intro v' hv')|(refine aac ?_;intro ac cc)|refine aw2 ?_|(refine ap4 ?_ ?_<;>try intro h)|apply True.intro)
   ((with_reducible apply fp_ret);exact res_1 rfl rfl)
   exact HR.out _ _ _ [] Takes.all ⟨rfl,rfl⟩
 · have hj:joinB c gs=gs.getD (Int.toNat 0) default:=by
    match gs,h1 with
    | [g],_=>simp [joinB]
   rw [hj] at HR
   refine ae Tryz.func74 Tryz.ntmps74 ?_
   repeat' (first|exact xf|refine aw0 ?_|(refine ap2 ?_ ?_<;>try intro h)|refine aw1 ?_|(refine abx ?_;intro bb)|(refine abz ?_;intro bz)|(refine ahv ?_;intro v' hv')|(refine aac ?_;intro ac cc)|refine aw2 ?_|(refine ap4 ?_ ?_<;>try intro h)|apply True.intro)
   ((with_reducible apply fp_ret);exact res_1 rfl rfl)
   exact HR.out _ _ _ [] Takes.all ⟨rfl,rfl⟩
 · have hsep:((([c]:List UInt8).length:Nat):Int)=1:=rfl
   obtain ⟨q,hq,hq1,hq2⟩ : ∃ q:Int,(9223372036854775807:Int).tdiv ((gs.length:Int) - 1)=q/\2<=q/\q<=9223372036854775807:=by
    refine ⟨_,rfl,?_,?_⟩
    · rw [Int.tdiv_eq_ediv_of_nonneg (by omega)]
      exact Int.le_ediv_of_mul_le (by omega) (by omega)
    · rw [Int.tdiv_eq_ediv_of_nonneg (by omega)]
      exact Int.ediv_le_self _ (by omega)
   have hdr:(gs.drop (Int.toNat 1)).take ((gs.length:Int).toNat - Int.toNat 1)=gs.drop 1:=by
    rw [Int.toNat_natCast]
    exact List.take_of_length_le (by rw [List.length_drop];exact Nat.le_refl _)
   obtain ⟨g0,hg0⟩ : ∃ g,gs.getD (Int.toNat 0) default=g:=⟨_,rfl⟩
   have hgr:=fun b=>bGrow_any r b (gs.length - 1+lensT gs) (by omega) (by omega)
   have hg0l:g0.length<=lensT gs:=lensT_mem (hg0 ▸ getD_memU (l:=gs) (show 0<gs.length by omega))
   have hw0:=fun b a c=>wstrU_any r b c (some ⟨b,0,none⟩) a g0 [] (.inr rfl) (by have h:([]:List UInt8).length=0:=rfl;omega)
   refine ae Tryz.func74 Tryz.ntmps74 ?_
   repeat' (first|(rw [hsep])|((with_reducible apply swo_pur);(with_reducible apply pu_quoP (q:=q));rfl;rfl;(omega);exact hq;(apply inR_i64<;>omega);(refine apk ?_))|exact xf|refine aw0 ?_|(refine ap2 ?_ ?_<;>try intro h)|refine aw1 ?_|(refine abx ?_;intro bb)|(refine abz ?_;intro bz)|(refine ahv ?_;intro v' hv')|(refine aac ?_;intro ac cc)|refine aw2 ?_|(refine ap4 ?_ ?_<;>try intro h)|apply True.intro)
   have ht0:lensT (gs.take 0)=0:=rfl
   refine sw_loop (fun gm t H' => ∃ k:Nat,gm=gs.length+1 - k/\(k<=gs.length)/\(∃ G,Takes [] H' G)/\Sls t 75 [(0,v),(1,.string (bs [c])),(5,.int .i64 ((gs.length - 1+lensT (gs.take k):Nat):Int)),(39,v),(40,.int .i64 gs.length),(41,.int .i64 k)]) _ ⟨0,rfl,Nat.zero_le _,⟨[],by (exact atks)⟩,asls⟩ ?_
   rintro gm t H' ⟨k,rfl,hk,⟨G,hp⟩,hs'⟩
   revert t;refine sls_all ?_;iterate 69 intro uu'
   refine sw_takeG hp ?_;clear hp
   have hsa:=lensT_app (gs.take k) (gs.drop k)
   rw [List.take_append_drop] at hsa
   by_cases hlt:k<gs.length
   · have hst:lensT (gs.take (k+1))=lensT (gs.take k)+(gs.getD k default).length:=by
      rw [take_getD (d:=default) hlt,lensT_app];simp [lensT]
     have hgm:=lensT_mem (getD_memU (l:=gs) hlt)
     repeat' (first|exact xf|refine aw0 ?_|(refine ap2 ?_ ?_<;>try intro h)|refine aw1 ?_|(refine abx ?_;intro bb)|(refine abz ?_;intro bz)|(refine ahv ?_;intro v' hv')|(refine aac ?_;intro ac cc)|refine aw2 ?_|(refine ap4 ?_ ?_<;>try intro h)|apply True.intro)
     exact ⟨_,by omega,k+1,rfl,by omega,⟨[],by (exact atks)⟩,asls⟩
   · obtain rfl:k=gs.length:=by omega
     rw [List.take_length]
     repeat' (first|(rw [hdr] at hv')|(rw [hg0])|((with_reducible apply kx_alloc (E:=163));exact ty_zero;(exact qcl);intro b8;(refine apk ?_))|(refine acl Tryz.func119 ?_;refine acr (hgr b8) ?_;rintro v' H' ⟨a1,c1,rfl⟩;refine apl ?_)|(refine acl Tryz.func116 ?_;refine acr (hw0 b8 a1 c1) ?_;rintro v' H' ⟨a2,c2,rfl⟩;refine apl ?_)|exact xf|refine aw0 ?_|(refine ap2 ?_ ?_<;>try intro h)|refine aw1 ?_|(refine abx ?_;intro bb)|(refine abz ?_;intro bz)|(refine ahv ?_;intro v' hv')|(refine aac ?_;intro ac cc)|refine aw2 ?_|(refine ap4 ?_ ?_<;>try intro h)|apply True.intro)
     have hv2:Els r 1 encTx v' (gs.drop 1):=by assumption
     have hdl:(gs.drop 1).length=gs.length - 1:=List.length_drop
     have hls:lensT gs=g0.length+lensT (gs.drop 1):=by
      have h:=lensT_app (gs.take 1) (gs.drop 1)
      rw [List.take_append_drop,take_getD (l:=gs) (k:=0) (d:=default) (by omega)] at h
      have h3:lensT (gs.take 0++[gs.getD 0 default])=g0.length:=by
       rw [← hg0];simp [lensT]
      omega
     have hjn:joinB c gs=g0++(gs.drop 1).flatMap (c :: ·):=by
      match gs,h2 with
      | g::gs',_ =>
       have:g=g0:=hg0
       subst this
       rfl
     rw [hjn] at HR
     obtain ⟨D,hD⟩ : ∃ D,gs.drop 1=D:=⟨_,rfl⟩
     have hdl0:=hdl
     rw [hD] at hv2 hdl hls HR
     refine sw_loop (fun gm t H' => ∃ (k:Nat) (a c':_) (L:List UInt8),gm=D.length+1 - k/\(k<=D.length)/\(L=g0++(D.take k).flatMap (c :: ·))/\(∃ G,Takes [bldC b8 (some ⟨b8,0,none⟩) (.slice a L.length c'),U8R (.slice a L.length c') L] H' G)/\Sls t 75 [(1,.string (bs [c])),(8,.pointer (some ⟨b8,0,none⟩)),(63,v'),(64,.int .i64 D.length),(65,.int .i64 k)]) _ ⟨0,a2,c2,g0,rfl,Nat.zero_le _,by simp,⟨_,atks⟩,asls⟩ ?_
     rintro gm t H' ⟨k,a,c',L,rfl,hk,hL,⟨G,hp⟩,hs'⟩
     revert t;refine sls_all ?_;iterate 70 intro uu'
     refine sw_takeG hp ?_;clear hp
     have hLl:L.length=g0.length+(lensT (D.take k)+k):=by
      rw [hL,List.length_append,flat_sep,List.length_take,Nat.min_eq_left hk]
     have hsa:=lensT_app (D.take k) (D.drop k)
     rw [List.take_append_drop] at hsa
     by_cases hlt:k<D.length
     · obtain ⟨g,hg⟩ : ∃ g,D.getD k default=g:=⟨_,rfl⟩
       have hgm:g.length<=lensT D:=lensT_mem (hg ▸ getD_memU (l:=D) hlt)
       have hs1:([c]:List UInt8).length=1:=rfl
       have hw1:=wstrU_any r b8 c' (some ⟨b8,0,none⟩) a [c] L (.inr rfl) (by omega)
       have hw2:=fun a c'=>wstrU_any r b8 c' (some ⟨b8,0,none⟩) a g (L++[c]) (.inr rfl) (by rw [List.length_append];omega)
       repeat' (first|(rw [hg])|(refine acl Tryz.func116 ?_;refine acr (hw1) ?_;rintro v' H' ⟨a3,c3,rfl⟩;refine apl ?_)|(refine acl Tryz.func116 ?_;refine acr (hw2 a3 c3) ?_;rintro v' H' ⟨a4,c4,rfl⟩;refine apl ?_)|exact xf|refine aw0 ?_|(refine ap2 ?_ ?_<;>try intro h)|refine aw1 ?_|(refine abx ?_;intro bb)|(refine abz ?_;intro bz)|(refine ahv ?_;intro v' hv')|(refine aac ?_;intro ac cc)|refine aw2 ?_|(refine ap4 ?_ ?_<;>try intro h)|apply True.intro)
       exact ⟨_,by omega,k+1,a4,c4,L++[c]++g,rfl,by omega,by rw [hL,take_getD (d:=default) hlt,hg,List.flatMap_append,List.append_assoc,List.append_assoc,← List.append_assoc];simp,⟨_,atks⟩,asls⟩
     · obtain rfl:k=D.length:=by omega
       rw [List.take_length] at hL hLl
       have hne:L≠[]:=fun e=>by rw [e] at hLl;simp at hLl;omega
       have hst:=bstr_any r b8 c' (some ⟨b8,0,none⟩) a L hne (by omega)
       repeat' (first|(refine acl Tryz.func118 ?_;refine acr (hst) ?_;rintro v' H' ⟨rfl,rfl⟩;refine apl ?_)|exact xf|refine aw0 ?_|(refine ap2 ?_ ?_<;>try intro h)|refine aw1 ?_|(refine abx ?_;intro bb)|(refine abz ?_;intro bz)|(refine ahv ?_;intro v' hv')|(refine aac ?_;intro ac cc)|refine aw2 ?_|(refine ap4 ?_ ?_<;>try intro h)|apply True.intro)
       ((with_reducible apply fp_ret);exact res_1 rfl rfl)
       exact HR.out _ _ _ [] Takes.all ⟨by rw [hL],rfl⟩
end Go.Proofs.YteknekiclhnkiaaGreatDoor
