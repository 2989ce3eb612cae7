/- asker's bytes, here, behind, kids, alt: their contracts. Calls of functions that hold their first arguments. -/
import Derived.Test.YteknekiclhnkiaaGreatDoorYv
set_option maxHeartbeats 8000000
set_option maxRecDepth 10000
namespace Go.Proofs.YteknekiclhnkiaaGreatDoor
open Go.RowKit
namespace Sx
section
variable {P : Program} {l : Option Nat} {r : Hp} {Q : Exit → St} {K : St} {t : List Value} {H : List Ch} {o : Oper} {d : Option Tmp} {ty : TypeId} {pos : String} {af : Array Edge} {gd : Option (Nat × Bool)}
theorem swo_callF {fo:Operand} {aa:List Operand} {tys:Array TypeId} {f:FuncId} {fst cap:List Value} {args:List Value} {Hc Hf:List Ch} {R:Rt} (ho:o.op = .call { callee:= .value fo,args:=aa.toArray,argTypes:=tys })
 (hg:GoesTo P f) (hf:evalL t fo = .func (.func f) fst.toArray cap.toArray) (ha:fst++aa.map (evalL t)++cap=args) (hc:Tri P r f args Hc R) (hp:Takes Hc H Hf)
 (hk : ∀ v H',R v H'->K (putL t o.dst v) (H'++Hf)):SWo P l r o K t H:=by
 intro w g ds ok al
 refine ⟨fun _ _=>trivial,?_⟩
 rw [show (FW l).round=l from rfl,sem_plain (by rw [ho];intro c hc;cases hc),eval_fun]
 have hrun:(execOp (evalL t) o).run P w = .ok (.enter f args.toArray) w:=by
  have e1:fst.toArray++(List.map (evalL t) aa).toArray++cap.toArray=args.toArray:=by rw [← ha];simp
  have e2:(execOp (evalL t) o).run P w=(callFunc f (fst.toArray++(List.map (evalL t) aa).toArray++cap.toArray)).run P w:=by
   simp [execOp,ho,resolve,hf,Deferred.ofValue,invoke]
  rw [e2,e1];exact hg _ w
 rw [hrun,Oper.uponIn_enter]
 refine ⟨fun c=>(by cases c),?_⟩
 have h1:CallsIn (FW l) 0 P f args.toArray w fun e w' => ∃ v H' h',e = .returned v/\R v H'/\all (H'++Hf) h'/\To l r ds w g ds w' h':=by
  have:=callsIn_wide (n:=0).2 (hc.in hp ok al)
  cases l with
  | none=>exact this
  | some k=>exact CallsIn.inRound k this
 refine h1.mono ?_
 rintro e w' ⟨v,H',h',rfl,hR,al',to⟩
 refine ⟨_,_,_,put_L _ _ _ _,hk v H' hR,al',to⟩
theorem kx_callF {fo:Operand} {aa:List Operand} {tys:Array TypeId} {f:FuncId} {fst cap:List Value} {xs:List Value} {Hc Hf:List Ch} {R:Rt} (hg:GoesTo P f) (hf:evO t fo=some (.func (.func f) fst.toArray cap.toArray)) (ha:evs t aa=some xs) (hc:Tri P r f (fst++xs++cap) Hc R) (hp:Takes Hc H Hf)
 (hk : ∀ v H',R v H'->K (putL t d v) (H'++Hf)):SWo P l r ⟨d,.call { callee:= .value fo,args:=aa.toArray,argTypes:=tys },ty,pos,af,gd⟩ K t H:=swo_callF rfl hg (ev_of hf) (by rw [evs_of ha]) hc hp hk
end
end Sx
open Sx
structure TbV where
 a:Option Addr
 c:Nat
 T:List Nat
instance:Inhabited TbV:=⟨⟨none,0,[]⟩⟩
def encTb (z:TbV):List Value:=[.slice z.a z.T.length z.c]
abbrev TbsC (Z:List TbV):Ch:=all (Z.map fun z=>TbC z.a z.c z.T)
theorem tbsC_snoc {Z:List TbV} {a:Option Addr} {c:Nat} {T:List Nat} (h:Hp) (e:all [TbsC Z,TbC a c T] h):TbsC (Z++[⟨a,c,T⟩]) h:=by
 have h1:=all_perm (List.Perm.swap _ _ _) e
 have h2:=(all_fold (L1:=[TbC a c T])).1 h1
 refine all_perm ?_ h2
 rw [List.map_append]
 exact List.perm_append_comm (l₁:=[_])
theorem tbsC_in {r:Hp} : ∀ {Z:List TbV} {g:Hp},TbsC Z g->sub g r -> ∀ z∈Z,Els r 4 encE (.slice z.a z.T.length z.c) z.T
 | [],_,_,_,_,hz=>by cases hz
 | y::Z,g,h,hs,z,hz=>by
  obtain ⟨g1,g2,d,rfl,h1,h2⟩:=h
  rcases List.mem_cons.1 hz with rfl|hz
  · exact tbC_els h1 fun b o e=>hs b o (un_left e)
  · exact tbsC_in (Z:=Z) h2 (fun b o e=>hs b o (un_right d e)) z hz
theorem here1_any (r:Hp) (v:Value) (s:Tx) (hv:U8S r v s) (b2 b3:Nat) (k:Int) (s0 s1 s2 s3:Nat) (kv:Value) (mn mx:Int) (lz:Bool) (gr:Int) (hb2:r b2=some (.cells [v].toArray 72 (0,0))) (hb3:r b3=some (.cells [.int .i64 k,.int .u64 s0,.int .u64 s1,.int .u64 s2,.int .u64 s3,kv,.int .i64 mn,.int .i64 mx,.bool lz,.int .i64 gr].toArray 28 (0,0))) (i:Nat) (hi:i<=s.length) (hs:s.length<=62):Tri Tryz.prog r 97 [.int .i64 (i:Nat),.pointer (some ⟨b2,0,none⟩),.pointer (some ⟨b3,0,none⟩)] [noJ] fun w H => ∃ e,(e=2 ^ i\/e=0)/\w = .agg (encE e).toArray/\H=[noJ]:=by
 have hsp:=spot_any r v s hv k i (by omega)
 have hp:=fun b bz=>eputO_any r b 0 i bz 3 (by omega) (by omega)
 have hz:orN 0 (2 ^ i)=2 ^ i:=Nat.zero_or _
 refine Tri.free2 fun R HR=>?_
 refine ae Tryz.func97 Tryz.ntmps97 ?_
 repeat' (first|((with_reducible apply kx_alloc (E:=74));exact ty_zero;(exact qcl);intro b4;(refine apk ?_))|(refine acl Tryz.func98 ?_;refine acr (hsp) ?_;rintro v' H' ⟨⟨p1,rfl⟩,rfl⟩;refine apl ?_)|(rw [hz])|(first|((with_reducible apply kx_bs1);exact ty_el;exact ty_inf;rfl;rfl;rfl;intro bz;(refine apk ?_))|((with_reducible apply kx_bsN);exact ty_el;exact ty_inf;rfl;rfl;rfl;intro bz;(refine apk ?_)))|(refine acl Tryz.func91 ?_;refine acr (hp b4 bz) ?_;rintro v' H' rfl;all_goals refine apl ?_)|exact xf|refine aw0 ?_|(refine ap2 ?_ ?_<;>try intro h)|refine aw1 ?_|(refine abx ?_;intro bb)|(refine abz ?_;intro bz)|(refine ahv ?_;intro v' hv')|(refine aac ?_;intro ac cc)|refine aw2 ?_|(refine ap4 ?_ ?_<;>try intro h)|apply True.intro)
 · ((with_reducible apply fp_ret);exact res_W rfl rfl atk ty_agg ty_size rfl)
   exact HR.out _ _ _ [noJ] atks ⟨2 ^ i,.inl rfl,rfl,rfl⟩
 · ((with_reducible apply fp_ret);exact res_W rfl rfl atk ty_agg ty_size rfl)
   exact HR.out _ _ _ [noJ] atks ⟨0,.inr rfl,rfl,rfl⟩
theorem bytes_sp (r:Hp) (v:Value) (s:Tx) (hv:U8S r v s) (hs:s.length<=62) (_hv1:one? v=true) (k:Int) (s0 s1 s2 s3:Nat) (kv:Value) (mn mx:Int) (lz:Bool) (gr:Int) (_hk1:one? kv=true) (h0:s0<2 ^ 64) (h1:s1<2 ^ 64) (h2:s2<2 ^ 64) (h3:s3<2 ^ 64):Tri Tryz.prog r 52 [.agg [v].toArray,.agg [.int .i64 k,.int .u64 s0,.int .u64 s1,.int .u64 s2,.int .u64 s3,kv,.int .i64 mn,.int .i64 mx,.bool lz,.int .i64 gr].toArray] [] fun w H => ∃ a c,w = .slice a (setT [s0,s1,s2,s3] s).length c/\H=[TbC a c (setT [s0,s1,s2,s3] s)]:=by
 have he:=fun r' (hr:sub r r') b2 b3 (hb2:r' b2=some (.cells [v].toArray 72 (0,0))) (hb3:r' b3=some (.cells [.int .i64 k,.int .u64 s0,.int .u64 s1,.int .u64 s2,.int .u64 s3,kv,.int .i64 mn,.int .i64 mx,.bool lz,.int .i64 gr].toArray 28 (0,0)))=>each_any r' v s (hv.mono hr) hs 89 [.pointer (some ⟨b2,0,none⟩),.pointer (some ⟨b3,0,none⟩)] (goesOf Tryz.func89 (by kernel_rfl) rfl) (fun _=>noJ) (fun i=>if i<s.length/\hasS [s0,s1,s2,s3] (s.getD i 0).toNat=true then 2 ^ (i+1) else 0) fun i hi=>(bytes1_any r' v s (hv.mono hr) b2 b3 k s0 s1 s2 s3 kv mn mx lz gr hb2 hb3 h0 h1 h2 h3 i hi hs).addJ
 refine Tri.free2 fun R HR=>?_
 refine ae Tryz.func52 Tryz.ntmps52 ?_
 refine sw_put (A:=noJ) rfl ?_
 repeat' (first|((with_reducible apply kx_box (v:= .agg [v].toArray));rfl;(exact qcl);intro b2;(refine apk ?_))|((with_reducible apply kx_box);rfl;(exact qcl);intro b3;(refine apk ?_))|((with_reducible apply kx_lend [(b2,(.cells [v].toArray 72 (0,0))),(b3,(.cells [.int .i64 k,.int .u64 s0,.int .u64 s1,.int .u64 s2,.int .u64 s3,kv,.int .i64 mn,.int .i64 mx,.bool lz,.int .i64 gr].toArray 28 (0,0)))]);(exact atks);intro r' hl';refine acl Tryz.func87 ?_;refine acr (he r' hl'.1 b2 b3 (Lent.h1 hl') (Lent.h2 hl')) ?_;rintro v' H' ⟨a,c,rfl,rfl⟩;all_goals refine apm ?_)|exact xf|refine aw0 ?_|(refine ap2 ?_ ?_<;>try intro h)|refine aw1 ?_|(refine abx ?_;intro bb)|(refine abz ?_;intro bz)|(refine ahv ?_;intro v' hv')|(refine aac ?_;intro ac cc)|refine aw2 ?_|(refine ap4 ?_ ?_<;>try intro h)|apply True.intro)
 ((with_reducible apply fp_ret);exact res_1 rfl rfl)
 exact HR.out _ _ _ [TbC a c (setT [s0,s1,s2,s3] s)] atks ⟨a,c,rfl,rfl⟩
theorem here_tab {n:Nat} {T:List Nat} (h:T.length=n+1) (k : ∀ i,i<=n->T.getD i 0=2 ^ i\/T.getD i 0=0) : ∃ p:Nat->Bool,T=hereT n p:=by
 refine ⟨fun i=>decide (T.getD i 0=2 ^ i),tab_of h fun i hi=>?_⟩
 by_cases e:T.getD i 0=2 ^ i
 · rw [if_pos (decide_eq_true e)];exact e
 · rw [if_neg (by simpa using e)]
   exact (k i hi).resolve_left e
theorem here_sp (r:Hp) (v:Value) (s:Tx) (hv:U8S r v s) (hs:s.length<=62) (_hv1:one? v=true) (k:Int) (s0 s1 s2 s3:Nat) (kv:Value) (mn mx:Int) (lz:Bool) (gr:Int) (_hk1:one? kv=true):Tri Tryz.prog r 57 [.agg [v].toArray,.agg [.int .i64 k,.int .u64 s0,.int .u64 s1,.int .u64 s2,.int .u64 s3,kv,.int .i64 mn,.int .i64 mx,.bool lz,.int .i64 gr].toArray] [] fun w H => ∃ p a c,w = .slice a (hereT s.length p).length c/\H=[TbC a c (hereT s.length p)]:=by
 have he:=fun r' (hr:sub r r') b2 b3 (hb2:r' b2=some (.cells [v].toArray 72 (0,0))) (hb3:r' b3=some (.cells [.int .i64 k,.int .u64 s0,.int .u64 s1,.int .u64 s2,.int .u64 s3,kv,.int .i64 mn,.int .i64 mx,.bool lz,.int .i64 gr].toArray 28 (0,0)))=>each_rel r' v s (hv.mono hr) hs 97 [.pointer (some ⟨b2,0,none⟩),.pointer (some ⟨b3,0,none⟩)] (goesOf Tryz.func97 (by kernel_rfl) rfl) (fun _=>noJ) (fun i e=>e=2 ^ i\/e=0) fun i hi=>here1_any r' v s (hv.mono hr) b2 b3 k s0 s1 s2 s3 kv mn mx lz gr hb2 hb3 i hi hs
 refine Tri.free2 fun R HR=>?_
 refine ae Tryz.func57 Tryz.ntmps57 ?_
 refine sw_put (A:=noJ) rfl ?_
 repeat' (first|((with_reducible apply kx_box (v:= .agg [v].toArray));rfl;(exact qcl);intro b2;(refine apk ?_))|((with_reducible apply kx_box);rfl;(exact qcl);intro b3;(refine apk ?_))|((with_reducible apply kx_lend [(b2,(.cells [v].toArray 72 (0,0))),(b3,(.cells [.int .i64 k,.int .u64 s0,.int .u64 s1,.int .u64 s2,.int .u64 s3,kv,.int .i64 mn,.int .i64 mx,.bool lz,.int .i64 gr].toArray 28 (0,0)))]);(exact atks);intro r' hl';refine acl Tryz.func87 ?_;refine acr (he r' hl'.1 b2 b3 (Lent.h1 hl') (Lent.h2 hl')) ?_;rintro v' H' ⟨T,a,c,hTl,hTg,rfl,rfl⟩;all_goals refine apm ?_)|exact xf|refine aw0 ?_|(refine ap2 ?_ ?_<;>try intro h)|refine aw1 ?_|(refine abx ?_;intro bb)|(refine abz ?_;intro bz)|(refine ahv ?_;intro v' hv')|(refine aac ?_;intro ac cc)|refine aw2 ?_|(refine ap4 ?_ ?_<;>try intro h)|apply True.intro)
 obtain ⟨p,rfl⟩:=here_tab hTl hTg
 ((with_reducible apply fp_ret);exact res_1 rfl rfl)
 exact HR.out _ _ _ [TbC a c (hereT s.length p)] atks ⟨p,a,c,rfl,rfl⟩
abbrev tbox (b:Nat) (a:Option Addr) (c:Nat) (T:List Nat):Nat × Obj:=(b,.cells [.slice a T.length c].toArray 69 (0,0))
theorem getD_def (A:List Nat) (i:Nat):A.getD i default=A.getD i 0:=rfl
theorem alt1_any (r:Hp) (n:Nat) (hn:n<63) (b5 b7:Nat) (a1 a2:Option Addr) (c1 c2:Nat) (A B:List Nat) (hA:Els r 4 encE (.slice a1 A.length c1) A) (hB:Els r 4 encE (.slice a2 B.length c2) B) (oA:TabOk n A) (oB:TabOk n B) (hb5:r b5=some (tbox b5 a1 c1 A).2) (hb7:r b7=some (tbox b7 a2 c2 B).2) (i:Nat) (hi:i<=n):Tri Tryz.prog r 94 [.int .i64 (i:Nat),.pointer (some ⟨b5,0,none⟩),.pointer (some ⟨b7,0,none⟩)] [] fun w H=>w = .agg (encE (orN (A.getD i 0) (B.getD i 0))).toArray/\H=[]:=by
 have hp : ∀ x,x<2 ^ (n+1)->x<2 ^ 64:=fun x h=>Nat.lt_of_lt_of_le h (Nat.pow_le_pow_right (by omega) (by omega))
 have hei:=either_any r _ _ (hp _ (oA.get i)) (hp _ (oB.get i))
 have lA:=oA.len
 have lB:=oB.len
 obtain ⟨x,hx⟩ : ∃ x,A.getD i 0=x:=⟨_,rfl⟩
 obtain ⟨y,hy⟩ : ∃ y,B.getD i 0=y:=⟨_,rfl⟩
 rw [hx,hy] at hei ⊢
 dsimp only [tbox] at hb5 hb7
 refine Tri.free2 fun R HR=>?_
 refine ae Tryz.func94 Tryz.ntmps94 ?_
 repeat' (first|(rw [getD_def,hx])|(rw [getD_def,hy])|((with_reducible apply kx_alloc (E:=74));exact ty_zero;(exact qcl);intro b4;(refine apk ?_))|((((with_reducible apply sw_draw (id:=1) 9 [(0,true),(1,true),(2,true),(3,true),(4,true),(5,true),(6,true),(7,true),(8,false)] [(9,false)] []);kernel_rfl;(exact atks);kernel_rfl;intro r' hl'));have hb5':=hl'.1 _ _ hb5;have hb7':=hl'.1 _ _ hb7;have hA':=hA.mono hl'.1;have hB':=hB.mono hl'.1)|(refine acl Tryz.func95 ?_;refine acr (hei.up hl'.1) ?_;rintro v' H' ⟨rfl,rfl⟩;refine apl ?_)|((with_reducible apply kx_storeN);exact ty_size;rfl;rfl;rfl;(exact qsw);exact encE_one _;(exact qst);(refine apk ?_))|exact xf|refine aw0 ?_|(refine ap2 ?_ ?_<;>try intro h)|refine aw1 ?_|(refine abx ?_;intro bb)|(refine abz ?_;intro bz)|(refine ahv ?_;intro v' hv')|(refine aac ?_;intro ac cc)|refine aw2 ?_|(refine ap4 ?_ ?_<;>try intro h)|apply True.intro)
 ((with_reducible apply fp_ret);exact res_W rfl rfl atk ty_agg ty_size rfl)
 exact HR.out _ _ _ [] atks ⟨rfl,rfl⟩
theorem behind1_any (r:Hp) (hT:TabF r) (n:Nat) (hn:n<63) (b5 b7:Nat) (a1 a2:Option Addr) (c1 c2:Nat) (A B:List Nat) (hA:Els r 4 encE (.slice a1 A.length c1) A) (hB:Els r 4 encE (.slice a2 B.length c2) B) (oA:TabOk n A) (oB:TabOk n B) (hb5:r b5=some (tbox b5 a1 c1 A).2) (hb7:r b7=some (tbox b7 a2 c2 B).2) (i:Nat) (hi:i<=n):Tri Tryz.prog r 126 [.int .i64 (i:Nat),.pointer (some ⟨b5,0,none⟩),.pointer (some ⟨b7,0,none⟩)] [] fun w H=>w = .agg (encE (orAll B (bitsX (A.getD i 0)))).toArray/\H=[]:=by
 have hp : ∀ x,x<2 ^ (n+1)->x<2 ^ 64:=fun x h=>Nat.lt_of_lt_of_le h (Nat.pow_le_pow_right (by omega) (by omega))
 have lA:=oA.len
 have lB:=oB.len
 have hxA:=oA.get i
 obtain ⟨x,hx⟩ : ∃ x,A.getD i 0=x:=⟨_,rfl⟩
 rw [hx] at hxA ⊢
 have hal:=eall_any r x
 have hbs:=bitsX_sub (by omega) hxA
 obtain ⟨X,hX⟩ : ∃ X,bitsX x=X:=⟨_,rfl⟩
 have hseq:=fun Bk=>eall_seq r hT Bk x (hp x hxA)
 rw [hX] at hseq hbs ⊢
 dsimp only [tbox] at hb5 hb7
 refine Tri.free2 fun R HR=>?_
 refine ae Tryz.func126 Tryz.ntmps126 ?_
 repeat' (first|(rw [getD_def,hx])|((with_reducible apply kx_alloc (E:=74));exact ty_zero;(exact qcl);intro b4;(refine apk ?_))|(refine acl Tryz.func33 ?_;refine acr (hal) ?_;rintro v' H' ⟨Bk,rfl,rfl⟩;refine apl ?_)|exact xf|refine aw0 ?_|(refine ap2 ?_ ?_<;>try intro h)|refine aw1 ?_|(refine abx ?_;intro bb)|(refine abz ?_;intro bz)|(refine ahv ?_;intro v' hv')|(refine aac ?_;intro ac cc)|refine aw2 ?_|(refine ap4 ?_ ?_<;>try intro h)|apply True.intro)
 refine sw_range rfl (goesOf Tryz.func58 (by kernel_rfl) rfl) (hseq Bk) atks (fun _=>rfl)
  (fun j H => ∃ G,Takes [ebox b4 (orAll B (X.take j))] H G)
  (fun _ _ _=>False) ?_ ?_ ?_ (fun _ _ _ _ h=>h.elim)
 · exact ⟨_,by (exact atks)⟩
 · rintro kk j hj H ⟨G,hp2⟩
   obtain ⟨m,hm⟩ : ∃ m,X[j]=m:=⟨_,rfl⟩
   have hmn:m<=n:=(hbs m (hm ▸ List.getElem_mem hj)).2
   have htk:orAll B (X.take (j+1))=orN (orAll B (X.take j)) (B.getD m 0):=by rw [List.take_succ_eq_append_getElem hj,hm,orAll_snoc]
   have hei:=either_any r _ _ (hp _ (orAll_lt oB (X.take j))) (hp _ (oB.get m))
   rw [hm,show encJ m=[.int .i64 (m:Nat)] from rfl,pars1]
   refine sw_takeG hp2 ?_
   clear hp2
   obtain ⟨y,hy⟩ : ∃ y,orAll B (X.take j)=y:=⟨_,rfl⟩
   obtain ⟨z,hz⟩ : ∃ z,B.getD m 0=z:=⟨_,rfl⟩
   rw [hy,hz] at hei htk
   rw [hy]
   (refine apk ?_)
   repeat' (first|(rw [getD_def,hz])|((((with_reducible apply sw_draw (id:=3) 6 [(0,true),(1,true),(2,true),(3,true),(4,true),(5,false)] [(6,false)] [(b4,.cells (encE y).toArray 74 (0,0))]);kernel_rfl;(exact atks);kernel_rfl;intro r' hl'));have hb7':=hl'.1 _ _ hb7;have hB':=hB.mono hl'.1)|((with_reducible apply pi_pur);rfl;(exact qwt);(with_reducible apply pu_ldW);rfl;(first|assumption|exact Lent.h1 hl'|exact Lent.h2 hl'|exact Lent.h3 hl');rfl;(refine apk ?_))|(refine acl Tryz.func95 ?_;refine acr (hei.up hl'.1) ?_;rintro v' H' ⟨rfl,rfl⟩;refine apl ?_)|((with_reducible apply kx_storeN);exact ty_size;rfl;rfl;rfl;(exact qsw);exact encE_one _;(exact qst);(refine apk ?_))|exact xf|refine aw0 ?_|(refine ap2 ?_ ?_<;>try intro h)|refine aw1 ?_|(refine abx ?_;intro bb)|(refine abz ?_;intro bz)|(refine ahv ?_;intro v' hv')|(refine aac ?_;intro ac cc)|refine aw2 ?_|(refine ap4 ?_ ?_<;>try intro h)|apply True.intro)
   exact ⟨_,by rw [htk];exact atks⟩
 · rintro H ⟨G,hp2⟩
   rw [List.take_length] at hp2
   refine sw_takeG hp2 ?_
   clear hp2
   repeat' (first|exact xf|refine aw0 ?_|(refine ap2 ?_ ?_<;>try intro h)|refine aw1 ?_|(refine abx ?_;intro bb)|(refine abz ?_;intro bz)|(refine ahv ?_;intro v' hv')|(refine aac ?_;intro ac cc)|refine aw2 ?_|(refine ap4 ?_ ?_<;>try intro h)|apply True.intro)
   ((with_reducible apply fp_ret);exact res_W rfl rfl atk ty_agg ty_size rfl)
   exact HR.out _ _ _ [] atks ⟨rfl,rfl⟩
end Go.Proofs.YteknekiclhnkiaaGreatDoor
