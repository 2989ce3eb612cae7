/- know.row, cross, parts, all, Grams: their contracts. -/
import Derived.Test.YteknekiclhnkiaaGreatDoorVm
import Derived.Test.YteknekiclhnkiaaGreatDoorOa
set_option maxHeartbeats 4000000
set_option maxRecDepth 10000
namespace Go.Proofs.YteknekiclhnkiaaGreatDoor
open Go.RowKit Sx
namespace Sx
section
variable {P : Program} {l : Option Nat} {r : Hp} {Q : Exit → St} {K : St} {t : List Value} {H : List Ch}
theorem pu_ldP {d:Option Tmp} {ty:TypeId} {pos:String} {af:Array Edge} {gd:Option (Nat × Bool)} {T E:TypeId} {x:Operand} {b n off:Nat} {c vs:List Value} {fz:Nat × Nat} [TyF P T true n] (hx:evO t x=some (.pointer (some ⟨b,off,none⟩))) (h:r b=some (.cells c.toArray E fz)) (hc:cut c off n=vs) (hl:vs.length=n):Pur P r t ⟨d,.load T x,ty,pos,af,gd⟩ (.agg vs.toArray) :=
 pu_ldN hx (rlN_r h hc) hl
theorem sw_lendE {c:Code} {A:Ch} {H1:List Ch} (ht:Take A H H1) (h : ∀ r' g,sub r r'->sub g r'->A g->SW P l r' c (fun e t' H'=>Q e t' (A::H')) t H1):SW P l r c Q t H:=by
 intro w h0 ds ok al
 obtain ⟨g,k,d,rfl,hg,hk⟩:=ht.all al
 refine wpIn_mono (h (un r g) g (fun b o e=>un_left e) (fun b o e=>un_right (dj_un.1 ok.dj).1 e) hg w k ds (ok.lend d) hk) ?_
 intro e a' w' p
 cases e with
 | panic _=>exact p.elim
 | outgrown=>exact p.elim
 | _ =>
  obtain ⟨t',H',k',e1,h2,al',to'⟩:=p
  obtain ⟨d',tb⟩:=To.back ok d to'
  exact ⟨t',_,_,e1,h2,⟨g,k',d',rfl,hg,al'⟩,tb⟩
end
end Sx
open Sx
theorem Sx.Tri.freeI {P:Program} {r:Hp} {f:FuncId} {args:List Value} {H:List Ch} {R:Rt} (h : ∀ R':Rt,Hid (∀ v G H' H2,(∀ h,all H' h->all (H2++G) h)->R v H2->R' v H')->Tri P r f args H R'):Tri P r f args H R:=by
 have h1:=h (fun v H' => ∃ G H2,(∀ h,all H' h->all (H2++G) h)/\R v H2) (hid fun v G H' H2 ht hr=>⟨G,H2,ht,hr⟩)
 refine Tri.weak (tri_iff.2 fun w g o a=>(tri_iff.1 h1 w g o a).mono ?_)
 rintro _ _ ⟨v,H',h',e,⟨G,H2,ht,hr⟩,al,to⟩
 exact ⟨v,H2++G,h',e,⟨G,H2,List.perm_append_comm,hr⟩,ht h' al,to⟩
theorem Sx.takesI {As H' G H2 G2:List Ch} (ht:Takes As H' G) (hi : ∀ h,all As h->all (H2++G2) h) : ∀ h,all H' h->all (H2++(G2++G)) h:=fun h e=>by
 have e1:=all_perm ht e
 obtain ⟨x,y,dd,rfl,hx,hy⟩:=all_app.1 e1
 rw [← List.append_assoc]
 exact all_app.2 ⟨x,y,dd,rfl,hi x hx,hy⟩
theorem Sx.Tri.lendI {P:Program} {r:Hp} {f:FuncId} {args:List Value} {A:Ch} {H:List Ch} {R:Hp->Rt} (h : ∀ r' g,sub r r'->sub g r'->(∀ r'',sub r r''->sub g r''->sub r' r'')->A g->Tri P r' f args H (R r')):Tri P r f args (A::H) fun w H' => ∃ r' g H'',sub r r'/\(∀ r'',sub r r''->sub g r''->sub r' r'')/\A g/\R r' w H''/\H'=(fun x=>x=g)::H'' :=
 tri_iff.2 fun w h0 ok al=>by
  obtain ⟨g,k,d,rfl,hg,hk⟩:=al
  refine (tri_iff.1 (h (un r g) g (fun b o e=>un_left e) (fun b o e=>un_right (dj_un.1 ok.dj).1 e) (fun r'' s1 s2 b o e=>(un_some e).elim (s1 b o) (s2 b o)) hg) w k (ok.lend d) hk).mono ?_
  rintro e w' ⟨v,H',h',rfl,hR,al',to'⟩
  obtain ⟨d',tb⟩:=To.back ok d to'
  exact ⟨v,_,_,rfl,⟨_,g,H',fun b o e=>un_left e,fun r'' s1 s2 b o e=>(un_some e).elim (s1 b o) (s2 b o),hg,hR,rfl⟩,⟨g,h',d',rfl,rfl,al'⟩,tb⟩
abbrev TxC (a:Option Addr) (c:Nat) (l:List Tx):Ch:=RowC 9 1 (.slice a l.length c) l.length (l.flatMap encTx)
theorem txC_els {a:Option Addr} {c:Nat} {l:List Tx} {g r:Hp} (h:TxC a c l g) (hs:sub g r):Els r 1 encTx (.slice a l.length c) l:=⟨fun _=>rfl,h.sl hs⟩
theorem txC_snoc {a:Option Addr} {c:Nat} {Z:List Tx} {s:Tx}:TxC a c (Z++[s])=RowC 9 1 (.slice a (Z.length+1) c) (Z.length+1) (Z.flatMap encTx++[.string (bs s)]):=by
 unfold TxC
 rw [List.length_append,List.length_singleton,List.flatMap_append];rfl
theorem values_any (r:Hp) (v:Value) (X:List Tx) (hv:Els r 1 encTx v X):Tri Tryz.prog r 84 [v] [] fun w H => ∃ B,w = .func (.func 124) #[] #[.pointer (some ⟨B,0,none⟩)]/\H=[pt B (.cells [v].toArray 34 (0,0))]:=by
 obtain ⟨a0,c0,rfl⟩:=hv.2.form
 refine Tri.free2 fun R HR=>?_
 refine ae Tryz.func84 Tryz.ntmps84 ?_
 repeat' (first|((with_reducible apply kx_box);rfl;(exact qcl);intro b1;(refine apk ?_))|exact xf|refine aw0 ?_|(refine ap2 ?_ ?_<;>try intro h)|refine aw1 ?_|(refine abx ?_;intro bb)|(refine abz ?_;intro bz)|(refine ahv ?_;intro v' hv')|(refine aac ?_;intro ac cc)|refine aw2 ?_|(refine ap4 ?_ ?_<;>try intro h)|apply True.intro)
 ((with_reducible apply fp_ret);exact res_1 rfl rfl)
 exact HR.out _ _ _ [_] atks ⟨b1,rfl,rfl⟩
theorem values_seq (r:Hp) (B:Nat) (v:Value) (X:List Tx) (hv:Els r 1 encTx v X):Seq Tryz.prog r 124 [.pointer (some ⟨B,0,none⟩)] tellT X [pt B (.cells [v].toArray 34 (0,0))] []:=by
 intro k J Jx hy
 refine Tri.free2 fun R HR=>?_
 have hlm:=maxI hv.2.2.1
 refine ae Tryz.func124 Tryz.ntmps124 ?_
 repeat' (first|exact xf|refine aw0 ?_|(refine ap2 ?_ ?_<;>try intro h)|refine aw1 ?_|(refine abx ?_;intro bb)|(refine abz ?_;intro bz)|(refine ahv ?_;intro v' hv')|(refine aac ?_;intro ac cc)|refine aw2 ?_|(refine ap4 ?_ ?_<;>try intro h)|apply True.intro)
 refine sw_loop (fun gm t H' => ∃ (m:Nat),gm=X.length+1 - m/\(m<=X.length)/\(∃ G,Takes [J m] H' G)/\Sls t 16 [(0,.func (.yield k) #[] #[]),(5,v),(6,.int .i64 X.length),(7,.int .i64 m)]) _ ⟨0,rfl,Nat.zero_le _,⟨_,atks⟩,asls⟩ ?_
 rintro gm t H' ⟨m,rfl,hm,⟨G,hp⟩,hs'⟩
 revert t;refine sls_all ?_;iterate 12 intro uu'
 refine sw_takeG hp ?_;clear hp
 by_cases hlt:m<X.length
 · obtain ⟨g,hg⟩ : ∃ g,X.getD m default=g:=⟨_,rfl⟩
   have hXm:X[m]=g:=by rw [← hg,List.getD_eq_getElem?_getD,List.getElem?_eq_getElem hlt];rfl
   have hyp:=hy m hlt
   rw [hXm,show tellT g=[.string (bs g)] from rfl] at hyp
   repeat' (first|(rw [hg])|((with_reducible apply kx_yield);rfl;exact (hyp);rfl;(exact atk);all_goals (refine apk ?_))|exact xf|refine aw0 ?_|(refine ap2 ?_ ?_<;>try intro h)|refine aw1 ?_|(refine abx ?_;intro bb)|(refine abz ?_;intro bz)|(refine ahv ?_;intro v' hv')|(refine aac ?_;intro ac cc)|refine aw2 ?_|(refine ap4 ?_ ?_<;>try intro h)|apply True.intro)
   · exact ⟨_,by omega,m+1,rfl,by omega,⟨_,atks⟩,asls⟩
   · ((with_reducible apply fp_ret);exact res_0 rfl)
     exact HR.out _ _ _ [Jx (m+1)] atks (.inr ⟨m,[],hlt,rfl⟩)
 · obtain rfl:m=X.length:=by omega
   repeat' (first|exact xf|refine aw0 ?_|(refine ap2 ?_ ?_<;>try intro h)|refine aw1 ?_|(refine abx ?_;intro bb)|(refine abz ?_;intro bz)|(refine ahv ?_;intro v' hv')|(refine aac ?_;intro ac cc)|refine aw2 ?_|(refine ap4 ?_ ?_<;>try intro h)|apply True.intro)
   ((with_reducible apply fp_end);exact res_0 rfl)
   exact HR.out _ _ _ [J X.length] atks (.inl rfl)
theorem appSeq_any (r:Hp) (B:Nat) (v:Value) (X:List Tx) (hv:Els r 1 encTx v X) (hX:X.length<=10000000):Tri Tryz.prog r 148 [.slice none 0 0,.func (.func 124) #[] #[.pointer (some ⟨B,0,none⟩)]] [pt B (.cells [v].toArray 34 (0,0))] fun w H => ∃ a c,w = .slice a X.length c/\H=[TxC a c X]:=by
 have hseq:=values_seq r B v X hv
 refine Tri.free2 fun R HR=>?_
 refine ae Tryz.func148 Tryz.ntmps148 ?_
 repeat' (first|((with_reducible apply kx_box);rfl;(exact qcl);intro b2;(refine apk ?_))|exact xf|refine aw0 ?_|(refine ap2 ?_ ?_<;>try intro h)|refine aw1 ?_|(refine abx ?_;intro bb)|(refine abz ?_;intro bz)|(refine ahv ?_;intro v' hv')|(refine aac ?_;intro ac cc)|refine aw2 ?_|(refine ap4 ?_ ?_<;>try intro h)|apply True.intro)
 refine sw_put (A:=RowC 9 1 (.slice none 0 0) 0 []) (RowC.nil _ _) ?_
 refine sw_range rfl (goesOf Tryz.func124 (by kernel_rfl) rfl) hseq atks (fun _=>rfl)
  (fun j H => ∃ (a:Option Addr) (c':Nat),∃ G,Takes [pt b2 (.cells [.slice a (X.take j).length c'].toArray 34 (0,0)),RowC 9 1 (.slice a (X.take j).length c') (X.take j).length ((X.take j).flatMap encTx)] H G)
  (fun _ _ _=>False) ?_ ?_ ?_ (fun _ _ _ _ h=>h.elim)
 · exact ⟨none,0,_,by (exact atks)⟩
 · rintro kk i hi H ⟨a,c',G,hp⟩
   obtain ⟨s,hx⟩ : ∃ s,X[i]=s:=⟨_,rfl⟩
   have htk:X.take (i+1)=X.take i++[s]:=by rw [List.take_succ_eq_append_getElem hi,hx]
   have htl:(X.take i).length<=X.length:=by rw [List.length_take];omega
   rw [hx,show tellT s=[.string (bs s)] from rfl,pars1]
   refine sw_takeG hp ?_
   clear hp
   obtain ⟨Y,hY⟩ : ∃ Y,X.take i=Y:=⟨_,rfl⟩
   rw [hY] at htl htk ⊢
   clear hY
   (refine apk ?_)
   repeat' (first|(first|((with_reducible apply kx_append1);exact ty_el;exact ty_inf;rfl;rfl;rfl;(exact atk);(exact atk);rfl;omega;intro a' c';(refine apk ?_))|((with_reducible apply kx_appendN);exact ty_el;exact ty_inf;rfl;rfl;rfl;rfl;(exact atk);(exact atk);rfl;rfl;omega;intro a' c';(refine apk ?_)))|exact xf|refine aw0 ?_|(refine ap2 ?_ ?_<;>try intro h)|refine aw1 ?_|(refine abx ?_;intro bb)|(refine abz ?_;intro bz)|(refine ahv ?_;intro v' hv')|(refine aac ?_;intro ac cc)|refine aw2 ?_|(refine ap4 ?_ ?_<;>try intro h)|apply True.intro)
   refine ⟨a',c',?_⟩
   apply Exists.intro
   rw [htk,List.length_append,List.length_singleton,List.flatMap_append,show [s].flatMap encTx=[.string (bs s)] from rfl]
   (exact atks)
 · rintro H ⟨a,c',G,hp⟩
   rw [List.take_length] at hp
   refine sw_takeG hp ?_
   clear hp
   repeat' (first|exact xf|refine aw0 ?_|(refine ap2 ?_ ?_<;>try intro h)|refine aw1 ?_|(refine abx ?_;intro bb)|(refine abz ?_;intro bz)|(refine ahv ?_;intro v' hv')|(refine aac ?_;intro ac cc)|refine aw2 ?_|(refine ap4 ?_ ?_<;>try intro h)|apply True.intro)
   ((with_reducible apply fp_ret);exact res_1 rfl rfl)
   exact HR.out _ _ _ [TxC a c' X] atks ⟨a,c',rfl,rfl⟩
theorem sorted_any (r:Hp) (B:Nat) (v:Value) (X:List Tx) (hv:Els r 1 encTx v X) (hX:X.length<=10000000):Tri Tryz.prog r 83 [.func (.func 124) #[] #[.pointer (some ⟨B,0,none⟩)]] [pt B (.cells [v].toArray 34 (0,0))] fun w H => ∃ a c,w = .slice a (sortT X).length c/\H=[TxC a c (sortT X)]:=by
 have hap:=appSeq_any r B v X hv hX
 have hco:Tri Tryz.prog r 123 [.func (.func 124) #[] #[.pointer (some ⟨B,0,none⟩)]] [pt B (.cells [v].toArray 34 (0,0))] fun w H => ∃ a c,w = .slice a X.length c/\H=[TxC a c X]:=by
  refine Tri.free2 fun R HR=>?_
  refine ae Tryz.func123 Tryz.ntmps123 ?_
  repeat' (first|(refine acl Tryz.func148 ?_;refine acr (hap) ?_;rintro v' H' ⟨a,c,rfl,rfl⟩;refine apl ?_)|exact xf|refine aw0 ?_|(refine ap2 ?_ ?_<;>try intro h)|refine aw1 ?_|(refine abx ?_;intro bb)|(refine abz ?_;intro bz)|(refine ahv ?_;intro v' hv')|(refine aac ?_;intro ac cc)|refine aw2 ?_|(refine ap4 ?_ ?_<;>try intro h)|apply True.intro)
  ((with_reducible apply fp_ret);exact res_1 rfl rfl)
  exact HR.out _ _ _ [TxC a c X] atks ⟨a,c,rfl,rfl⟩
 have hso:=fun a c=>sortT_tri r a c X hX
 rw [sortT_len]
 refine Tri.free2 fun R HR=>?_
 refine ae Tryz.func83 Tryz.ntmps83 ?_
 repeat' (first|(refine acl Tryz.func123 ?_;refine acr (hco) ?_;rintro v' H' ⟨a,c,rfl,rfl⟩;refine apl ?_)|(refine acl Tryz.func101 ?_;refine acr (hso a c) ?_;rintro v' H' rfl;all_goals refine apl ?_)|exact xf|refine aw0 ?_|(refine ap2 ?_ ?_<;>try intro h)|refine aw1 ?_|(refine abx ?_;intro bb)|(refine abz ?_;intro bz)|(refine ahv ?_;intro v' hv')|(refine aac ?_;intro ac cc)|refine aw2 ?_|(refine ap4 ?_ ?_<;>try intro h)|apply True.intro)
 ((with_reducible apply fp_ret);exact res_1 rfl rfl)
 exact HR.out _ _ _ [RowC 9 1 (.slice a X.length c) X.length ((sortT X).flatMap encTx)] atks ⟨a,c,rfl,by rw [← sortT_len X]⟩
theorem row_any (r:Hp) (v:Value) (X:List Tx) (hv:Els r 1 encTx v X) (hX:X.length<=10000000):Tri Tryz.prog r 48 [v] [] fun w H => ∃ a c,w = .slice a (rowT X).length c/\H=[TxC a c (rowT X)]:=by
 have hva:=values_any r v X hv
 have hso:=fun B=>sorted_any r B v X hv hX
 have hcp:=fun a c=>compactT_tri r a c (sortT X) (by rw [sortT_len];exact hX)
 rw [sort_grams] at hcp
 obtain ⟨S,hS⟩ : ∃ S,sortT X=S:=⟨_,rfl⟩
 rw [hS] at hso hcp
 obtain ⟨Z,hZ⟩ : ∃ Z,sortBy id X=Z:=⟨_,rfl⟩
 rw [show rowT X=Z from hZ]
 rw [hZ] at hcp
 refine Tri.free2 fun R HR=>?_
 refine ae Tryz.func48 Tryz.ntmps48 ?_
 repeat' (first|(refine acl Tryz.func84 ?_;refine acr (hva) ?_;rintro v' H' ⟨B,rfl,rfl⟩;refine apl ?_)|(refine acl Tryz.func83 ?_;refine acr (hso B) ?_;rintro v' H' ⟨a,c,rfl,rfl⟩;refine apl ?_)|(refine acl Tryz.func85 ?_;refine acr (hcp a c) ?_;rintro v' H' ⟨rfl,rfl⟩;refine apl ?_)|exact xf|refine aw0 ?_|(refine ap2 ?_ ?_<;>try intro h)|refine aw1 ?_|(refine abx ?_;intro bb)|(refine abz ?_;intro bz)|(refine ahv ?_;intro v' hv')|(refine aac ?_;intro ac cc)|refine aw2 ?_|(refine ap4 ?_ ?_<;>try intro h)|apply True.intro)
 ((with_reducible apply fp_ret);exact res_1 rfl rfl)
 exact HR.out _ _ _ [TxC a c Z] atks ⟨a,c,rfl,rfl⟩
theorem pairs_snoc (A:List Tx) (x:Tx) (b:List Tx):pairsT (A++[x]) b=pairsT A b++b.map (x ++ ·):=by unfold pairsT;rw [List.flatMap_append];simp
theorem pairs_len : ∀ (A b:List Tx),(pairsT A b).length=A.length*b.length
 | [],b=>by simp [pairsT]
 | x::A,b=>by
  have:=pairs_len A b
  unfold pairsT at this ⊢
  rw [List.flatMap_cons,List.length_append,this,List.length_map,List.length_cons,Nat.add_mul];omega
theorem cross_any (r:Hp) (v w:Value) (A b:List Tx) (hv:Els r 1 encTx v A) (hw:Els r 1 encTx w b) (hl:A.length<=3000) (hm:b.length<=3000) (hs : ∀ x∈A,x.length<=1000000) (ht : ∀ x∈b,x.length<=1000000):Tri Tryz.prog r 75 [v,w] [] fun u H => ∃ a c,u = .slice a (crossT A b).length c/\H=[TxC a c (crossT A b)]:=by
 have hln:=pairs_len A b
 have hmul:A.length*b.length<=3000*3000:=Nat.mul_le_mul hl hm
 have hro : ∀ r' g a c,sub g r'->TxC a c (pairsT A b) g->Tri Tryz.prog r' 48 [.slice a (pairsT A b).length c] [] fun u H => ∃ a c,u = .slice a (crossT A b).length c/\H=[TxC a c (crossT A b)]:=fun r' g a c h1 h2=>row_any r' _ _ (txC_els h2 h1) (by omega)
 refine Tri.free2 fun R HR=>?_
 refine ae Tryz.func75 Tryz.ntmps75 ?_
 repeat' (first|exact xf|refine aw0 ?_|(refine ap2 ?_ ?_<;>try intro h)|refine aw1 ?_|(refine abx ?_;intro bb)|(refine abz ?_;intro bz)|(refine ahv ?_;intro v' hv')|(refine aac ?_;intro ac cc)|refine aw2 ?_|(refine ap4 ?_ ?_<;>try intro h)|apply True.intro)
 refine sw_put (A:=TxC none 0 []) (RowC.nil _ _) ?_
 refine sw_loop (fun gm t H' => ∃ (i:Nat) (a:Option Addr) (c:Nat),gm=A.length+1 - i/\(i<=A.length)/\(∃ G,Takes [TxC a c (pairsT (A.take i) b)] H' G)/\Sls t 32 [(1,w),(5,.slice a (pairsT (A.take i) b).length c),(10,v),(11,.int .i64 A.length),(12,.int .i64 i)]) _ ⟨0,none,0,rfl,Nat.zero_le _,⟨_,atks⟩,asls⟩ ?_
 rintro gm t H' ⟨i,a,c,rfl,hi,⟨G,hp⟩,hs'⟩
 revert t;refine sls_all ?_;iterate 27 intro uu'
 refine sw_takeG hp ?_;clear hp
 by_cases hlt:i<A.length
 · obtain ⟨x,hx⟩ : ∃ x,A.getD i default=x:=⟨_,rfl⟩
   have hxm:x∈A:=hx ▸ getD_memU hlt
   have hxl:=hs x hxm
   have htk:pairsT (A.take (i+1)) b=pairsT (A.take i) b++b.map (x ++ ·):=by rw [take_getD (d:=default) hlt,hx,pairs_snoc]
   have hpl:=pairs_len (A.take i) b
   have hpm:(A.take i).length*b.length<=3000*3000:=Nat.mul_le_mul (by rw [List.length_take];omega) hm
   obtain ⟨Y,hY⟩ : ∃ Y,pairsT (A.take i) b=Y:=⟨_,rfl⟩
   rw [hY] at htk hpl
   rw [hY]
   have hl0:(Y++(b.take 0).map (x ++ ·)).length=Y.length:=by simp
   repeat' (first|(rw [hx])|exact xf|refine aw0 ?_|(refine ap2 ?_ ?_<;>try intro h)|refine aw1 ?_|(refine abx ?_;intro bb)|(refine abz ?_;intro bz)|(refine ahv ?_;intro v' hv')|(refine aac ?_;intro ac cc)|refine aw2 ?_|(refine ap4 ?_ ?_<;>try intro h)|apply True.intro)
   refine sw_loop (fun gm t H' => ∃ (j:Nat) (a:Option Addr) (c:Nat),gm=b.length+1 - j/\(j<=b.length)/\(∃ G,Takes [TxC a c (Y++(b.take j).map (x ++ ·))] H' G)/\Sls t 32 [(1,w),(5,.slice a (Y++(b.take j).map (x ++ ·)).length c),(7,.string (bs x)),(10,v),(11,.int .i64 A.length),(12,.int .i64 i),(16,w),(17,.int .i64 b.length),(18,.int .i64 j)]) _ ⟨0,a,c,rfl,Nat.zero_le _,⟨_,by rw [List.take_zero,List.map_nil,List.append_nil];exact atks⟩,asls⟩ ?_
   rintro gm t H' ⟨j,a,c,rfl,hj,⟨G,hp⟩,hs'⟩
   revert t;refine sls_all ?_;iterate 23 intro uu'
   refine sw_takeG hp ?_;clear hp
   by_cases hlt2:j<b.length
   · obtain ⟨y,hy⟩ : ∃ y,b.getD j default=y:=⟨_,rfl⟩
     have hym:y∈b:=hy ▸ getD_memU hlt2
     have hyl:=ht y hym
     have htj:Y++(b.take (j+1)).map (x ++ ·)=Y++(b.take j).map (x ++ ·)++[x++y]:=by rw [take_getD (d:=default) hlt2,hy,List.map_append,List.append_assoc];rfl
     have hzl:(Y++(b.take j).map (x ++ ·)).length<=9000000+3000:=by rw [List.length_append,List.length_map,List.length_take];omega
     obtain ⟨Z,hZ⟩ : ∃ Z,Y++(b.take j).map (x ++ ·)=Z:=⟨_,rfl⟩
     rw [hZ] at htj hzl
     rw [hZ]
     have hln2:(Y++(b.take (j+1)).map (x ++ ·)).length=Z.length+1:=by rw [htj,List.length_append];rfl
     repeat' (first|(rw [hy])|(first|((with_reducible apply kx_append1);exact ty_el;exact ty_inf;rfl;rfl;rfl;(exact atk);(exact atk);rfl;omega;intro a' c';(refine apk ?_))|((with_reducible apply kx_appendN);exact ty_el;exact ty_inf;rfl;rfl;rfl;rfl;(exact atk);(exact atk);rfl;rfl;omega;intro a' c';(refine apk ?_)))|((with_reducible apply swo_pur);(with_reducible apply pu_cat);rfl;rfl;(simp only [List.length_append,List.length_cons,List.length_nil];omega);(refine apk ?_))|exact xf|refine aw0 ?_|(refine ap2 ?_ ?_<;>try intro h)|refine aw1 ?_|(refine abx ?_;intro bb)|(refine abz ?_;intro bz)|(refine ahv ?_;intro v' hv')|(refine aac ?_;intro ac cc)|refine aw2 ?_|(refine ap4 ?_ ?_<;>try intro h)|apply True.intro)
     exact ⟨_,by omega,j+1,a',c',rfl,by omega,⟨_,by rw [htj,txC_snoc];exact atks⟩,asls⟩
   · obtain rfl:j=b.length:=by omega
     rw [List.take_length,← htk]
     repeat' (first|exact xf|refine aw0 ?_|(refine ap2 ?_ ?_<;>try intro h)|refine aw1 ?_|(refine abx ?_;intro bb)|(refine abz ?_;intro bz)|(refine ahv ?_;intro v' hv')|(refine aac ?_;intro ac cc)|refine aw2 ?_|(refine ap4 ?_ ?_<;>try intro h)|apply True.intro)
     exact ⟨_,by omega,i+1,a,c,rfl,by omega,⟨_,atks⟩,asls⟩
 · obtain rfl:i=A.length:=by omega
   rw [List.take_length]
   obtain ⟨Z,hZ⟩ : ∃ Z,crossT A b=Z:=⟨_,rfl⟩
   rw [hZ] at hro HR
   repeat' (first|((with_reducible refine swo_isCall 48 ?_);(with_reducible apply kx_lendC (A:=TxC a c (pairsT A b)));(exact atk);intro r1 g1 hr1 hg1 hA1;(refine acl Tryz.func48 ?_;refine acr (hro r1 g1 a c hg1 hA1) ?_;rintro v' H' ⟨a2,c2,rfl,rfl⟩;refine apl ?_))|exact xf|refine aw0 ?_|(refine ap2 ?_ ?_<;>try intro h)|refine aw1 ?_|(refine abx ?_;intro bb)|(refine abz ?_;intro bz)|(refine ahv ?_;intro v' hv')|(refine aac ?_;intro ac cc)|refine aw2 ?_|(refine ap4 ?_ ?_<;>try intro h)|apply True.intro)
   ((with_reducible apply fp_ret);exact res_1 rfl rfl)
   exact HR.out _ _ _ [TxC a2 c2 Z] atks ⟨a2,c2,rfl,rfl⟩
end Go.Proofs.YteknekiclhnkiaaGreatDoor
