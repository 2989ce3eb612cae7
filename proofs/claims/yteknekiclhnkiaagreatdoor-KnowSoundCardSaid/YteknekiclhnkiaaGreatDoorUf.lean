/- Append of a string to bytes that are owned; strings.Builder: WriteString, String. -/
import Derived.Test.YteknekiclhnkiaaGreatDoorUe
import Derived.Lib.AppendStr
import Derived.Lib.Builder
import Derived.Laws.Externs
set_option maxHeartbeats 2000000
set_option maxRecDepth 10000
namespace Go.Proofs.YteknekiclhnkiaaGreatDoor
open Go.RowKit
namespace Sx
theorem strCells_bs (l:List UInt8):Lib.strCells (bs l)=u8s l:=by
 unfold Lib.strCells bs u8s
 simp
section
variable {P : Program} {l : Option Nat} {r : Hp} {Q : Exit → St} {K : St} {t : List Value} {H : List Ch} {d : Option Tmp} {ty : TypeId} {pos : String} {af : Array Edge} {gd : Option (Nat × Bool)} {v : Value}
theorem kx_appW {T U E:TypeId} {n:Nat} {x y:Operand} {u:Value} {bl:List UInt8} {xs:List Value} {H':List Ch}
 (hT:elB P T=some E) (hi:infB P E=some (some (.int .u8 0),1,1)) (hU:strB P U=true) (hx:evO t x=some u) (hy:evO t y=some (.string (bs bl)))
 (ht:Take (RowC E 1 u n xs) H H') (hn:n+bl.length<=maxLen) (hb:n+bl.length<=140737488355328)
 (hk : ∀ a' c',K (putL t d (.slice a' (n+bl.length) c')) (RowC E 1 (.slice a' (n+bl.length) c') (n+bl.length) (xs++u8s bl)::H')):SWo P l r ⟨d,.call { callee:= .builtin .append,args := #[x,y],argTypes := #[T,U] },ty,pos,af,gd⟩ K t H :=
 swo_run (fun c hc=>by cases hc) fun w g0 ds ok al=>by
  obtain ⟨g,k,dd,rfl,hR,al'⟩:=ht.all al
  obtain ⟨i,hi1,hi2,hi3,hi4⟩:=infB_s hi
  have hu:=strB_s hU
  have hsz:(bs bl).size=bl.length:=bs_size bl
  have hxl:xs.length=n:=by have:=hR.1;omega
  have hul:(u8s bl).length=bl.length:=by unfold u8s;rw [List.length_map]
  have hlen:(xs++u8s bl).length=(n+bl.length)*1:=by rw [List.length_append,hxl,hul,Nat.mul_one]
  have hexec : ∀ {v' w'},(Builtin.append_ #[T,U] ty #[u,.string (bs bl)]).run P w = .ok v' w'->(execOp (evalL t) ⟨d,.call { callee:= .builtin .append,args := #[x,y],argTypes := #[T,U] },ty,pos,af,gd⟩).run P w = .ok (.value v') w':=fun hrun=>by
   have e1:evalL t x=_:=ev_of hx
   have e2:evalL t y=_:=ev_of hy
   simp [execOp,resolve,Result.andThen,invoke,BigFrame.builtin_append,e1,e2,hrun]
  have hkB:k w.heap.size=none:=by
   cases e:k w.heap.size with
   | none=>rfl
   | some o=>have:=(ok.emb.right dd).lt (b:=w.heap.size) (by simp [e]);omega
  -- where a new row is made
  have fresh : ∀ (old:Nat),old<n+bl.length->(Builtin.append_ #[T,U] ty #[u,.string (bs bl)]).run P w = .ok (.slice (some ⟨w.heap.size,0,none⟩) (n+bl.length) (grownCap w (n+bl.length) old E)) (w.drew.alloc (.cells (xs.toArray++(u8s bl).toArray++Builtin.zeroCells (Value.int .u8 0).cells (grownCap w (n+bl.length) old E - (n+bl.length))) E)) ->
   ∃ v' w' H2 h',(execOp (evalL t) ⟨d,.call { callee:= .builtin .append,args := #[x,y],argTypes := #[T,U] },ty,pos,af,gd⟩).run P w = .ok (.value v') w'/\K (putL t d v') H2/\all H2 h'/\To l r ds w (un g k) ds w' h':=fun old ho hr=>by
   have hge:=grownCap_ge w (n+bl.length) old E
   have hgm:grownCap w (n+bl.length) old E<=maxLen:=grownCap_le_maxLen w (n+bl.length) old E hn
   refine ⟨_,_,_,un (one w.heap.size (.cells (xs.toArray++(u8s bl).toArray++Builtin.zeroCells (Value.int .u8 0).cells (grownCap w (n+bl.length) old E - (n+bl.length))) E)) k,hexec hr,hk _ _,⟨_,k,?_,rfl,⟨hlen,.inr ⟨w.heap.size,_,_,rfl,rfl,hge,hgm,?_,?_⟩⟩,al'⟩,To.step ok rfl rfl rfl (by simp) (fun j hj hn=>heap_alloc_old w.drew _ j hj) (Emb.un ?_ ?_) (fun j hj=>?_)⟩
   · intro j
     by_cases e:j=w.heap.size
     · subst e;exact .inr hkB
     · exact .inl (by simp [one,e])
   · have hz1:(Value.int IntKind.u8 0).cells.size=1:=rfl
     simp only [Array.size_append,List.size_toArray,size_zeroCells,hz1,hxl,hul]
     omega
   · simp only [Array.toList_append,List.append_assoc]
     rw [← List.append_assoc,← hlen]
     exact List.take_left
   · intro j o ho
     obtain ⟨rfl,rfl⟩:=one_some ho
     exact heap_alloc_new w.drew _
   · intro j o ho
     have hjl:=(ok.emb.right dd).lt (b:=j) (by simp [ho])
     rw [heap_alloc_old w.drew _ j hjl]
     exact ok.emb.right dd j o ho
   · rcases un_ne.1 hj with h|h
     · right
       by_cases e:j=w.heap.size
       · omega
       · simp [one,e] at h
     · exact .inl (un_ne.2 (.inr h))
  rcases hR.2 with ⟨rfl,rfl,rfl⟩ | ⟨b,cap,cur,rfl,rfl,h1,h2,h3,h4⟩
  · have hxs:xs=[]:=List.eq_nil_of_length_eq_zero hxl
    subst hxs
    by_cases hm:bl=[]
    · subst hm
      refine ⟨.slice none 0 0,w,_,un emp k,?_,hk none 0,⟨emp,k,dd,rfl,RowC.nil _ _,al'⟩,To.refl ok⟩
      refine hexec ?_
      have hf:=Lib.run_firstCells_string (P:=P) w 1 (bs [])
      rw [hsz] at hf
      simp [Builtin.append_,run_underlying (elB_s hT),run_underlying hu,sizeOf,typeInfo,hi1,hi3,Builtin.lenOf,hsz]
      rw [show Sem.run P (Builtin.firstCells 1 0 (Value.string (bs []))) w=_ from hf]
      rfl
    · have hpos:0<bl.length:=List.length_pos_iff.2 hm
      have hr:=run_append_nil_string (P:=P) w T U ty E i (.int .u8 0) (elB_s hT) hu hi1 hi2 (bs bl) (by omega) (by rw [hsz];simp only [maxLen] at hn;omega) (by rw [hsz,hi4];omega)
      refine fresh 0 (by omega) ?_
      rw [hsz] at hr
      rw [hr]
      have e1:((bs bl).data.map fun b=>Value.int .u8 b.toNat)=(u8s bl).toArray:=by
       apply Array.ext'
       simp [bs,u8s]
      rw [e1]
      simp
  · have hgb:w.heap[b]?=some (.cells cur E (0,0)):=ok.emb.left b _ one_same
    have hcs:cur.size=cap:=by omega
    have hkb:k b=none:=(dd b).resolve_left (by simp [one])
    by_cases hroom:n+bl.length<=cap
    · have hr:=Lib.run_append_room_string (P:=P) w T U ty E i (elB_s hT) hu hi1 hi3 b n cap cur hgb (bs bl) (by rw [hsz];exact hroom) (by rw [hsz];omega)
      rw [hsz,strCells_bs] at hr
      refine ⟨_,_,_,un (one b (.cells (cur.toList.take n++u8s bl++cur.toList.drop (n+bl.length)).toArray E (0,0))) k,hexec hr,hk _ _,⟨_,k,?_,rfl,⟨hlen,.inr ⟨b,cap,_,rfl,rfl,hroom,h2,?_,?_⟩⟩,al'⟩,To.step ok rfl rfl rfl (by simp) (fun j hj hn=>?_) (Emb.un ?_ ?_) (fun j hj=>?_)⟩
      · intro j
        by_cases e:j=b
        · subst e;exact .inr hkb
        · exact .inl (by simp [one,e])
      · simp only [List.size_toArray,List.length_append,List.length_take,List.length_drop,Array.length_toList,hul]
        omega
      · have ht':cur.toList.take n=xs:=by simpa using h4
        rw [ht',← hlen]
        exact List.take_left
      · exact setRow_other w b j _ (fun e=>by subst e;have:=(un_none.1 hn).1;simp [one] at this)
      · intro j o ho
        obtain ⟨rfl,rfl⟩:=one_some ho
        exact setRow_heap w _ cur _ E _ hgb
      · intro j o ho
        rw [setRow_other w b j _ (fun e=>by subst e;rw [hkb] at ho;cases ho)]
        exact ok.emb.right dd j o ho
      · left
        rcases un_ne.1 hj with h|h
        · exact un_ne.2 (.inl (by by_cases e:j=b<;>simp_all [one]))
        · exact un_ne.2 (.inr h)
    · have holds : ∀ j u,xs[j]?=some u->w.cell? ((⟨b,0,none⟩:Addr).add j)=some u:=fun j u hu=>by
       rw [Addr.add_lit]
       unfold World.cell?
       rw [hgb]
       simp only [Option.isSome_none,Bool.false_eq_true,if_false,Nat.zero_add]
       rw [← h4,List.getElem?_take] at hu
       split at hu
       · rw [← Array.getElem?_toList];exact hu
       · cases hu
      have hr:=Lib.run_append_grow_string (P:=P) w T U ty E i (.int .u8 0) (elB_s hT) hu hi1 hi2 ⟨b,0,none⟩ n cap xs (by rw [hi3];omega) holds (bs bl) (by rw [hsz];omega) (by rw [hsz];simp only [maxLen] at hn;omega) (by rw [hsz,hi4];exact growslice_fits (by omega) (by omega))
      rw [hsz,strCells_bs] at hr
      exact fresh cap (by omega) hr
theorem kx_toU {S D T E:TypeId} {x:Operand} {b:Nat} {c:Array Value} {fz:Nat × Nat} {m:Nat} {H':List Ch} (hs:P.underlying S=some (.pointer T)) (hd:P.underlying D=some .unsafePointer) (hT:sizeB P T=some (m+1)) (hx:evO t x=some (.pointer (some ⟨b,0,none⟩))) (ht:Take (pt b (.cells c E fz)) H H') (hc:decide (0<c.size)=true)
 (hk:K (putL t d (.pointer (some ⟨b,0,none⟩))) H):SWo P l r ⟨d,.convert S D x,ty,pos,af,gd⟩ K t H :=
 swo_run (fun c hc=>by cases hc) fun w g0 ds ok al=>by
  obtain ⟨g,k,dd,rfl,hR,al'⟩:=ht.all al
  have hgb:w.heap[b]?=some (.cells c E fz):=ok.emb.left b _ (by rw [show g=one b _ from hR];exact one_same)
  have hsh:w.shape? b=some (E,c.size):=by simp [World.shape?,hgb]
  obtain ⟨j,hj,hjs⟩ : ∃ j,P.info? T=some j/\j.size=m+1:=by
   unfold sizeB at hT
   exact Option.map_eq_some_iff.1 hT
  have hr:=Lib.run_to_unsafe w ⟨b,0,none⟩ hs hd hj (by omega) hsh (by simpa using hc)
  refine ⟨_,w,H,_,?_,hk,al,To.refl ok⟩
  simp [execOp,ev_of hx,hr,Result.andThen]
theorem kx_fromU {S D T E:TypeId} {x:Operand} {b:Nat} {c:Array Value} {fz:Nat × Nat} {m:Nat} {H':List Ch} (hs:P.underlying S=some .unsafePointer) (hd:P.underlying D=some (.pointer T)) (hT:sizeB P T=some m) (hx:evO t x=some (.pointer (some ⟨b,0,none⟩))) (ht:Take (pt b (.cells c E fz)) H H') (hl:liesAt P P.depth E (c.size / P.cellsOf E) 0 T 1=true)
 (hk:K (putL t d (.pointer (some ⟨b,0,none⟩))) H):SWo P l r ⟨d,.convert S D x,ty,pos,af,gd⟩ K t H :=
 swo_run (fun c hc=>by cases hc) fun w g0 ds ok al=>by
  obtain ⟨g,k,dd,rfl,hR,al'⟩:=ht.all al
  have hgb:w.heap[b]?=some (.cells c E fz):=ok.emb.left b _ (by rw [show g=one b _ from hR];exact one_same)
  have hsh:w.shape? b=some (E,c.size):=by simp [World.shape?,hgb]
  obtain ⟨j,hj,hjs⟩ : ∃ j,P.info? T=some j/\j.size=m:=by
   unfold sizeB at hT
   exact Option.map_eq_some_iff.1 hT
  have hr:=Lib.run_from_unsafe w ⟨b,0,none⟩ hs hd hj hsh hl
  refine ⟨_,w,H,_,?_,hk,al,To.refl ok⟩
  simp [execOp,ev_of hx,hr,Result.andThen]
theorem kx_noEsc {f : FuncId} {fn : Func} {x : Operand} {ts : Array TypeId} {u : Value} (hf : P.funcs[f]? = some fn) (h1 : (fn.name == "runtime.NumGoroutine") = false) (h2 : fn.body.isNone = true) (h3 : Extern.findNext fn = none) (h4 : Extern.find fn = some Extern.AbiNoEscape.same) (hx : evO t x = some u)
 (hk:K (putL t d u) H):SWo P l r ⟨d,.call { callee:= .value (.func f),args := #[x],argTypes:=ts },ty,pos,af,gd⟩ K t H :=
 swo_run (fun c hc=>by cases hc) fun w g0 ds ok al=>by
  have hr:=run_callFunc_extern hf h1 h2 h3 h4 #[u] w
  rw [Lib.run_noEscape] at hr
  refine ⟨_,w,H,_,?_,hk,al,To.refl ok⟩
  have e1:evalL t x=u:=ev_of hx
  have e2:evalL t (.func f) = .func (.func f) #[] #[]:=rfl
  simp [execOp,resolve,Deferred.ofValue,invoke,e1,e2,Result.andThen,hr]
theorem pu_nePP {T T' U:TypeId} {m:Nat} {x y:Operand} {a:Addr} (hp:P.underlying T=some (.pointer U)) (hU:sizeB P U=some m) (hx:evO t x=some (.pointer (some a))) (hy:evO t y=some (.pointer (some a))):Pur P r t ⟨d,.binOp .neq T x y T',ty,pos,af,gd⟩ (.bool false):=by
 obtain ⟨j,hj,hjs⟩ : ∃ j,P.info? U=some j/\j.size=m:=by
  unfold sizeB at hU
  exact Option.map_eq_some_iff.1 hU
 refine ⟨rfl,fun w _=>?_⟩
 have h:=Lib.run_neq_ptr_same w a hp hj
 simp [execOp,ev_of hx,ev_of hy,eqGuard,Result.andThen,h]
end
end Sx
open Sx
abbrev bldC (b:Nat) (p:Option Addr) (v:Value):Ch:=pt b (.cells [.pointer p,v].toArray 163 (0,0))
theorem bcheck_any (r:Hp) (b:Nat) (p:Option Addr) (v:Value) (hp:p=none\/p=some ⟨b,0,none⟩) (_hv:one? v=true):Tri Tryz.prog r 144 [.pointer (some ⟨b,0,none⟩)] [bldC b p v] fun _ H=>H=[bldC b (some ⟨b,0,none⟩) v]:=by
 refine Tri.free2 fun R HR=>?_
 rcases hp with rfl|rfl
 · refine ae Tryz.func144 Tryz.ntmps144 ?_
   repeat' (first|((with_reducible apply swo_pur);(first|((with_reducible apply pu_eqPn);rfl;rfl)|((with_reducible apply pu_eqPs);rfl;rfl)|((with_reducible apply pu_nePn);rfl;rfl)|((with_reducible apply pu_nePs);rfl;rfl));(refine apk ?_))|((with_reducible apply kx_toU (S:=161) (D:=205) (T:=163) (m:=1));exact Tryz.underlying161;exact Tryz.underlying205;exact ty_size;rfl;(exact atk);rfl;(refine apk ?_))|((with_reducible apply kx_noEsc (f:=165));exact Tryz.func165;kernel_rfl;kernel_rfl;kernel_rfl;kernel_rfl;rfl;(refine apk ?_))|((with_reducible apply kx_fromU (S:=205) (D:=161) (T:=163) (m:=2));exact Tryz.underlying205;exact Tryz.underlying161;exact ty_size;rfl;(exact atk);kernel_rfl;(refine apk ?_))|((with_reducible refine swo_kit ?_ ?_);rfl;intro w ds K' hK;gi_big_op;(with_reducible refine hK _ ?_);clear hK K' ds w)|exact xf|refine aw0 ?_|(refine ap2 ?_ ?_<;>try intro h)|refine aw1 ?_|(refine abx ?_;intro bb)|(refine abz ?_;intro bz)|(refine ahv ?_;intro v' hv')|(refine aac ?_;intro ac cc)|refine aw2 ?_|(refine ap4 ?_ ?_<;>try intro h)|apply True.intro)
   ((with_reducible apply fp_end);exact res_0 rfl)
   exact HR.out _ _ _ [bldC b (some ⟨b,0,none⟩) v] atks rfl
 · refine ae Tryz.func144 Tryz.ntmps144 ?_
   repeat' (first|((with_reducible apply swo_pur);(first|((with_reducible apply pu_eqPn);rfl;rfl)|((with_reducible apply pu_eqPs);rfl;rfl)|((with_reducible apply pu_nePn);rfl;rfl)|((with_reducible apply pu_nePs);rfl;rfl));(refine apk ?_))|((with_reducible apply swo_pur);(with_reducible apply pu_nePP (T:=161) (U:=163) (m:=2));exact Tryz.underlying161;exact ty_size;rfl;rfl;(refine apk ?_))|((with_reducible refine swo_kit ?_ ?_);rfl;intro w ds K' hK;gi_big_op;(with_reducible refine hK _ ?_);clear hK K' ds w)|exact xf|refine aw0 ?_|(refine ap2 ?_ ?_<;>try intro h)|refine aw1 ?_|(refine abx ?_;intro bb)|(refine abz ?_;intro bz)|(refine ahv ?_;intro v' hv')|(refine aac ?_;intro ac cc)|refine aw2 ?_|(refine ap4 ?_ ?_<;>try intro h)|apply True.intro)
   ((with_reducible apply fp_end);exact res_0 rfl)
   exact HR.out _ _ _ [bldC b (some ⟨b,0,none⟩) v] atks rfl
theorem wstr_any (r:Hp) (b n c:Nat) (p a:Option Addr) (s:List UInt8) (xs:List Value) (hp:p=none\/p=some ⟨b,0,none⟩) (hn:n+s.length<=1000000000):Tri Tryz.prog r 116 [.pointer (some ⟨b,0,none⟩),.string (bs s)] [bldC b p (.slice a n c),RowC 5 1 (.slice a n c) n xs] fun _ H => ∃ a' c',H=[bldC b (some ⟨b,0,none⟩) (.slice a' (n+s.length) c'),RowC 5 1 (.slice a' (n+s.length) c') (n+s.length) (xs++u8s s)]:=by
 refine Tri.free2 fun R HR=>?_
 have hc:=bcheck_any r b p (.slice a n c) hp rfl
 refine ae Tryz.func116 Tryz.ntmps116 ?_
 repeat' (first|(refine acl Tryz.func144 ?_;refine acr (hc) ?_;rintro v' H' rfl;all_goals refine apl ?_)|((with_reducible apply kx_appW (bl:=s));exact ty_el;exact ty_inf;kernel_rfl;rfl;rfl;(exact atk);(unfold maxLen;omega);(omega);intro a' c';refine apm ?_)|((with_reducible refine swo_kit ?_ ?_);rfl;intro w ds K' hK;gi_big_op;(with_reducible refine hK _ ?_);clear hK K' ds w)|exact xf|refine aw0 ?_|(refine ap2 ?_ ?_<;>try intro h)|refine aw1 ?_|(refine abx ?_;intro bb)|(refine abz ?_;intro bz)|(refine ahv ?_;intro v' hv')|(refine aac ?_;intro ac cc)|refine aw2 ?_|(refine ap4 ?_ ?_<;>try intro h)|apply True.intro)
 ((with_reducible apply fp_ret);exact res_2 rfl rfl rfl)
 exact HR.out _ _ _ [_,_] atks ⟨a',c',rfl⟩
end Go.Proofs.YteknekiclhnkiaaGreatDoor
