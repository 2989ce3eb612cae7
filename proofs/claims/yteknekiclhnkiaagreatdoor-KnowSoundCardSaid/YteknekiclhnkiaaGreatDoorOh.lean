/- know.fixed, settled: their contracts. -/
import Derived.Test.YteknekiclhnkiaaGreatDoorOe
set_option maxHeartbeats 8000000
set_option maxRecDepth 10000
namespace Go.Proofs.YteknekiclhnkiaaGreatDoor
open Go.RowKit Sx
theorem Sx.kx_ldP {P:Program} {l:Option Nat} {r:Hp} {K:St} {t:List Value} {H H':List Ch} {d:Option Tmp} {ty:TypeId} {pos:String} {af:Array Edge} {gd:Option (Nat × Bool)} {T E:TypeId} {x:Operand} {b n off:Nat} {c vs:List Value} {fz:Nat × Nat} [TyF P T true n] (hx:evO t x=some (.pointer (some ⟨b,off,none⟩))) (ht:Take (pt b (.cells c.toArray E fz)) H H') (hc:cut c off n=vs) (hl:vs.length=n) (hk:K (putL t d (.agg vs.toArray)) H):SWo P l r ⟨d,.load T x,ty,pos,af,gd⟩ K t H :=
 kx_loadN ty_agg ty_size hx (rlN_pt ht hc) hl hk
theorem fixed_any (r:Hp) (gf:FuncId) (cut:Nat->Tx->Tx) (v:Value) (l:List Tx) (hv:Els r 1 encTx v l) (hg:GoesTo Tryz.prog gf) (hcut : ∀ r' (s:Tx) (n:Nat),n<=s.length->s.length<=1000000->Tri Tryz.prog r' gf [.string (bs s),.int .i64 n] [] fun w H=>w = .string (bs (cut n s))/\H=[]) (hmin : ∀ n s,cut (min n s.length) s=cut n s) (hl:l.length<=1000000) (hb : ∀ s∈l,s.length<=1000000) (hcl : ∀ n s,(cut n s).length<=s.length) :
 Tri Tryz.prog r 80 [v,.func (.func gf) #[] #[]] [] fun w H => ∃ a c,w = .slice a (fixedK cut l).length c/\H=[TxC a c (fixedK cut l)]:=by
 refine Tri.freeI fun R HR=>?_
 refine ae Tryz.func80 Tryz.ntmps80 ?_
 repeat' (first|exact xf|refine aw0 ?_|(refine ap2 ?_ ?_<;>try intro h)|refine aw1 ?_|(refine abx ?_;intro bb)|(refine abz ?_;intro bz)|(refine ahv ?_;intro v' hv')|(refine aac ?_;intro ac cc)|refine aw2 ?_|(refine ap4 ?_ ?_<;>try intro h)|apply True.intro)
 refine sw_put (A:=fun g=>g=emp) rfl ?_
 refine sw_loop (fun gm t H' => ∃ (n:Nat) (u:Value) (L:List Tx) (C:Ch),gm=n+1/\(n<=2)/\(∀ r' g,sub r r'->sub g r'->C g->Els r' 1 encTx u L)/\(L.length<=1000000)/\(∀ s∈L,s.length<=1000000)/\(restK cut n L=fixedK cut l)/\(n<2 -> ∃ a c,u = .slice a L.length c/\C=TxC a c L)/\(∃ G,Takes [C] H' G)/\Sls t 50 [(0,u),(1,.func (.func gf) #[] #[]),(5,.int .i64 n)]) _ ⟨2,v,l,(fun g=>g=emp),rfl,Nat.le_refl _,(fun r' g h1 _ _=>hv.mono h1),hl,hb,rest_two cut l,(fun h=>absurd h (by omega)),⟨_,atks⟩,asls⟩ ?_
 rintro gm t H' ⟨n,u,L,C,rfl,hn,hC,hLl,hLb,hfin,hown,⟨G,hp⟩,hs'⟩
 revert t;refine sls_all ?_;iterate 47 intro uu'
 refine sw_takeG hp ?_;clear hp
 refine sw_lendE (A:=C) atk fun r2 g2 hr2 hg2 hA2=>?_
 have hu:=hC r2 g2 hr2 hg2 hA2
 have hlm:=maxI hu.2.2.1
 by_cases hgo:n=2\/(n=1/\8<L.length)
 · have hn0:0<n:=by omega
   have hrest:restK cut n L=restK cut (n - 1) (rowT (L.map (cut n))):=by
    rcases hgo with rfl | ⟨rfl,h⟩
    · rfl
    · show finK (if 8<L.length then _ else _)=_
      rw [if_pos h];rfl
   have hro : ∀ r' g a c,sub g r'->TxC a c (L.map (cut n)) g->Tri Tryz.prog r' 48 [.slice a (L.map (cut n)).length c] [] fun u H => ∃ a c,u = .slice a (rowT (L.map (cut n))).length c/\H=[TxC a c (rowT (L.map (cut n)))]:=fun r' g a c h1 h2=>row_any r' _ _ (txC_els h2 h1) (by rw [List.length_map];omega)
   have hrl:=row_len (L.map (cut n))
   rw [List.length_map] at hrl
   have hrb : ∀ s∈rowT (L.map (cut n)),s.length<=1000000:=fun s hs=>by
    obtain ⟨y,hy,rfl⟩:=List.mem_map.1 (sortBy_mem hs)
    exact Nat.le_trans (hcl n y) (hLb y hy)
   rcases hgo with hn2 | ⟨hn2,h8⟩
   all_goals
    repeat' (first|exact xf|refine aw0 ?_|(refine ap2 ?_ ?_<;>try intro h)|refine aw1 ?_|(refine abx ?_;intro bb)|(refine abz ?_;intro bz)|(refine ahv ?_;intro v' hv')|(refine aac ?_;intro ac cc)|refine aw2 ?_|(refine ap4 ?_ ?_<;>try intro h)|apply True.intro)
    refine sw_put (A:=TxC none 0 []) (RowC.nil _ _) ?_
    refine sw_loop (fun gm t H' => ∃ (k:Nat) (a:Option Addr) (c:Nat),gm=L.length+1 - k/\(k<=L.length)/\(∃ G,Takes [TxC a c ((L.take k).map (cut n))] H' G)/\Sls t 50 [(1,.func (.func gf) #[] #[]),(5,.int .i64 n),(6,.slice a ((L.take k).map (cut n)).length c),(22,u),(23,.int .i64 L.length),(24,.int .i64 k)]) _ ⟨0,none,0,rfl,Nat.zero_le _,⟨_,atks⟩,asls⟩ ?_
    rintro gm t H' ⟨k,a,c,rfl,hk,⟨G,hp⟩,hs'⟩
    revert t;refine sls_all ?_;iterate 44 intro uu'
    refine sw_takeG hp ?_;clear hp
    by_cases hlt:k<L.length
    · obtain ⟨s,hx⟩ : ∃ s,L.getD k default=s:=⟨_,rfl⟩
      have hsm:s∈L:=hx ▸ getD_memU hlt
      have hsb:=hLb s hsm
      have htk:(L.take (k+1)).map (cut n)=(L.take k).map (cut n)++[cut n s]:=by rw [take_getD (d:=default) hlt,hx,List.map_append];rfl
      have htl:((L.take k).map (cut n)).length<=L.length:=by rw [List.length_map,List.length_take];omega
      obtain ⟨Y,hY⟩ : ∃ Y,(L.take k).map (cut n)=Y:=⟨_,rfl⟩
      rw [hY] at htk htl
      rw [hY]
      have hln2:((L.take (k+1)).map (cut n)).length=Y.length+1:=by rw [htk,List.length_append];rfl
      have hcu:=hcut r2 s (min n s.length) (Nat.min_le_right _ _) hsb
      rw [hmin] at hcu
      have hmi:((min n s.length:Nat):Int)=min (n:Int) (s.length:Int):=by omega
      rw [hmi] at hcu
      repeat' (first|(rw [hx])|((with_reducible apply kx_call (f:=gf) (cap:=[]));exact hg;rfl;rfl;exact hcu;(exact atks);rintro v' H' ⟨rfl,rfl⟩;all_goals ((try simp only [List.nil_append]);(refine apk ?_)))|(first|((with_reducible apply kx_append1);exact ty_el;exact ty_inf;rfl;rfl;rfl;(exact atk);(exact atk);rfl;omega;intro a' c';(refine apk ?_))|((with_reducible apply kx_appendN);exact ty_el;exact ty_inf;rfl;rfl;rfl;rfl;(exact atk);(exact atk);rfl;rfl;omega;intro a' c';(refine apk ?_)))|exact xf|refine aw0 ?_|(refine ap2 ?_ ?_<;>try intro h)|refine aw1 ?_|(refine abx ?_;intro bb)|(refine abz ?_;intro bz)|(refine ahv ?_;intro v' hv')|(refine aac ?_;intro ac cc)|refine aw2 ?_|(refine ap4 ?_ ?_<;>try intro h)|apply True.intro)
      exact ⟨_,by omega,k+1,a',c',rfl,by omega,⟨_,by rw [htk,txC_snoc];exact atks⟩,asls⟩
    · obtain rfl:k=L.length:=by omega
      rw [List.take_length]
      obtain ⟨Z,hZ⟩ : ∃ Z,rowT (L.map (cut n))=Z:=⟨_,rfl⟩
      rw [hZ] at hro hrest hrl hrb
      repeat' (first|((with_reducible refine swo_isCall 48 ?_);(with_reducible apply kx_lendC (A:=TxC a c (L.map (cut n))));(exact atk);intro r1 g1 hr1 hg1 hA1;(refine acl Tryz.func48 ?_;refine acr (hro r1 g1 a c hg1 hA1) ?_;rintro v' H' ⟨a2,c2,rfl,rfl⟩;refine apl ?_))|exact xf|refine aw0 ?_|(refine ap2 ?_ ?_<;>try intro h)|refine aw1 ?_|(refine abx ?_;intro bb)|(refine abz ?_;intro bz)|(refine ahv ?_;intro v' hv')|(refine aac ?_;intro ac cc)|refine aw2 ?_|(refine ap4 ?_ ?_<;>try intro h)|apply True.intro)
      exact ⟨_,by omega,n - 1,.slice a2 Z.length c2,Z,TxC a2 c2 Z,rfl,by omega,(fun r' g _ h2 h3=>txC_els h3 h2),by omega,hrb,by rw [← hrest];exact hfin,(fun _=>⟨a2,c2,rfl,rfl⟩),⟨_,atks⟩,asls⟩
 · have hn1:n<2:=by omega
   obtain ⟨a,c,rfl,rfl⟩:=hown hn1
   have hF:fixedK cut l=finK L:=by
    rw [← hfin]
    have h0:n=0\/(n=1/\¬ 8<L.length):=by omega
    rcases h0 with rfl | ⟨rfl,h⟩
    · rfl
    · show finK (if 8<L.length then _ else _)=_
      rw [if_neg h]
   rw [hF] at HR
   have hco : ∀ r' g,sub g r'->TxC a c L g->Tri Tryz.prog r' 122 [.slice a L.length c,.string (bs [])] [] fun w H=>w = .bool (decide ([]∈L))/\H=[]:=fun r' g h1 h2=>containsT_any r' _ L [] (txC_els h2 h1)
   by_cases h8:8<L.length
   · have hFi:finK L=[[]]:=by unfold finK;rw [if_pos (.inl h8)]
     rw [hFi] at HR
     repeat' (first|(first|((with_reducible apply kx_bs1);exact ty_el;exact ty_inf;rfl;rfl;rfl;intro bz;(refine apk ?_))|((with_reducible apply kx_bsN);exact ty_el;exact ty_inf;rfl;rfl;rfl;intro bz;(refine apk ?_)))|exact xf|refine aw0 ?_|(refine ap2 ?_ ?_<;>try intro h)|refine aw1 ?_|(refine abx ?_;intro bb)|(refine abz ?_;intro bz)|(refine ahv ?_;intro v' hv')|(refine aac ?_;intro ac cc)|refine aw2 ?_|(refine ap4 ?_ ?_<;>try intro h)|apply True.intro)
     all_goals
      ((with_reducible apply fp_ret);exact res_1 rfl rfl)
      exact HR.out _ _ _ [TxC (some ⟨bz,0,none⟩) 1 [[]]] (takesI (As:=[pt bz (.cells [.string (bs [])].toArray 9 (0,0))]) (G2:=[]) atks fun h e=>all_one.2 (lit1_row h (all_one.1 e))) ⟨_,_,rfl,rfl⟩
   · by_cases hm:[]∈L
     · have hFi:finK L=[[]]:=by unfold finK;rw [if_pos (.inr hm)]
       rw [hFi] at HR
       rw [decide_eq_true hm] at hco
       repeat' (first|((with_reducible refine swo_isCall 122 ?_);(with_reducible apply kx_lendC (A:=TxC a c L));(exact atk);intro r1 g1 hr1 hg1 hA1;(refine acl Tryz.func122 ?_;refine acr (hco r1 g1 hg1 hA1) ?_;rintro v' H' ⟨rfl,rfl⟩;refine apl ?_))|(first|((with_reducible apply kx_bs1);exact ty_el;exact ty_inf;rfl;rfl;rfl;intro bz;(refine apk ?_))|((with_reducible apply kx_bsN);exact ty_el;exact ty_inf;rfl;rfl;rfl;intro bz;(refine apk ?_)))|exact xf|refine aw0 ?_|(refine ap2 ?_ ?_<;>try intro h)|refine aw1 ?_|(refine abx ?_;intro bb)|(refine abz ?_;intro bz)|(refine ahv ?_;intro v' hv')|(refine aac ?_;intro ac cc)|refine aw2 ?_|(refine ap4 ?_ ?_<;>try intro h)|apply True.intro)
       all_goals
        ((with_reducible apply fp_ret);exact res_1 rfl rfl)
        exact HR.out _ _ _ [TxC (some ⟨bz,0,none⟩) 1 [[]]] (takesI (As:=[pt bz (.cells [.string (bs [])].toArray 9 (0,0))]) (G2:=[]) atks fun h e=>all_one.2 (lit1_row h (all_one.1 e))) ⟨_,_,rfl,rfl⟩
     · have hFi:finK L=L:=by unfold finK;rw [if_neg (by rintro (h|h);exact h8 h;exact hm h)]
       rw [hFi] at HR
       rw [decide_eq_false hm] at hco
       repeat' (first|((with_reducible refine swo_isCall 122 ?_);(with_reducible apply kx_lendC (A:=TxC a c L));(exact atk);intro r1 g1 hr1 hg1 hA1;(refine acl Tryz.func122 ?_;refine acr (hco r1 g1 hg1 hA1) ?_;rintro v' H' ⟨rfl,rfl⟩;refine apl ?_))|(first|((with_reducible apply kx_bs1);exact ty_el;exact ty_inf;rfl;rfl;rfl;intro bz;(refine apk ?_))|((with_reducible apply kx_bsN);exact ty_el;exact ty_inf;rfl;rfl;rfl;intro bz;(refine apk ?_)))|exact xf|refine aw0 ?_|(refine ap2 ?_ ?_<;>try intro h)|refine aw1 ?_|(refine abx ?_;intro bb)|(refine abz ?_;intro bz)|(refine ahv ?_;intro v' hv')|(refine aac ?_;intro ac cc)|refine aw2 ?_|(refine ap4 ?_ ?_<;>try intro h)|apply True.intro)
       all_goals
        ((with_reducible apply fp_ret);exact res_1 rfl rfl)
        exact HR.out _ _ _ [TxC a c L] (takesI (As:=[TxC a c L]) (G2:=[]) atks fun h e=>e) ⟨a,c,rfl,rfl⟩
theorem cutF_any (r:Hp) (s:Tx) (n:Nat) (h:n<=s.length):Tri Tryz.prog r 81 [.string (bs s),.int .i64 n] [] fun w H=>w = .string (bs (frontT n s))/\H=[]:=by
 refine Tri.free2 fun R HR=>?_
 refine ae Tryz.func81 Tryz.ntmps81 ?_
 repeat' (first|exact xf|refine aw0 ?_|(refine ap2 ?_ ?_<;>try intro h)|refine aw1 ?_|(refine abx ?_;intro bb)|(refine abz ?_;intro bz)|(refine ahv ?_;intro v' hv')|(refine aac ?_;intro ac cc)|refine aw2 ?_|(refine ap4 ?_ ?_<;>try intro h)|apply True.intro)
 ((with_reducible apply fp_ret);exact res_1 rfl rfl)
 exact HR.out _ _ _ [] Takes.all ⟨by first|rfl|(unfold frontT;simp),rfl⟩
theorem cutB_any (r:Hp) (s:Tx) (n:Nat) (h:n<=s.length) (hl:s.length<=100000000):Tri Tryz.prog r 82 [.string (bs s),.int .i64 n] [] fun w H=>w = .string (bs (backT n s))/\H=[]:=by
 refine Tri.free2 fun R HR=>?_
 refine ae Tryz.func82 Tryz.ntmps82 ?_
 repeat' (first|exact xf|refine aw0 ?_|(refine ap2 ?_ ?_<;>try intro h)|refine aw1 ?_|(refine abx ?_;intro bb)|(refine abz ?_;intro bz)|(refine ahv ?_;intro v' hv')|(refine aac ?_;intro ac cc)|refine aw2 ?_|(refine ap4 ?_ ?_<;>try intro h)|apply True.intro)
 ((with_reducible apply fp_ret);exact res_1 rfl rfl)
 exact HR.out _ _ _ [] Takes.all ⟨by first|rfl|(unfold backT;simp;rw [List.take_of_length_le (by rw [List.length_drop];omega)]),rfl⟩
theorem frontT_min (n:Nat) (s:Tx):frontT (min n s.length) s=frontT n s:=by
 unfold frontT
 rcases Nat.le_total n s.length with h|h
 · rw [Nat.min_eq_left h]
 · rw [Nat.min_eq_right h,List.take_of_length_le (Nat.le_refl _),List.take_of_length_le h]
theorem backT_min (n:Nat) (s:Tx):backT (min n s.length) s=backT n s:=by
 unfold backT
 congr 1
 omega
theorem frontT_le (n:Nat) (s:Tx):(frontT n s).length<=s.length:=by unfold frontT;rw [List.length_take];omega
theorem backT_le (n:Nat) (s:Tx):(backT n s).length<=s.length:=by unfold backT;rw [List.length_drop];omega
theorem fixedF_any (r:Hp) (v:Value) (l:List Tx) (hv:Els r 1 encTx v l) (hl:sizeT l<=100000):Tri Tryz.prog r 80 [v,.func (.func 81) #[] #[]] [] fun w H => ∃ a c,w = .slice a (fixedK frontT l).length c/\H=[TxC a c (fixedK frontT l)] :=
 fixed_any r _ frontT v l hv (goesOf Tryz.func81 (by kernel_rfl) rfl) (fun r' s n h _=>cutF_any r' s n h) frontT_min (by have:=sizeT_len l;omega) (fun s hs=>by have:=sizeT_mem hs;omega) frontT_le
theorem fixedB_any (r:Hp) (v:Value) (l:List Tx) (hv:Els r 1 encTx v l) (hl:sizeT l<=100000):Tri Tryz.prog r 80 [v,.func (.func 82) #[] #[]] [] fun w H => ∃ a c,w = .slice a (fixedK backT l).length c/\H=[TxC a c (fixedK backT l)] :=
 fixed_any r _ backT v l hv (goesOf Tryz.func82 (by kernel_rfl) rfl) (fun r' s n h h2=>cutB_any r' s n h (by omega)) backT_min (by have:=sizeT_len l;omega) (fun s hs=>by have:=sizeT_mem hs;omega) backT_le
theorem looseO_any (r:Hp) (hT:TabR r) (i:InfV) (hp:Els r 1 encTx (.slice i.pa i.pre.length i.pc) i.pre) (hs:Els r 1 encTx (.slice i.sa i.suf.length i.sc) i.suf) (hq:QuR r i.q) (hf:FitI i.key) (ho:(encQ i.q).all one?=true):Tri Tryz.prog r 36 [.agg [.bool i.known,.slice i.ea i.ex.length i.ec,.slice i.pa i.pre.length i.pc,.slice i.sa i.suf.length i.sc,.int .i64 i.q.kind,i.q.gv,i.q.sv].toArray] [TxC i.ea i.ec i.ex] fun w H => ∃ i':InfV,i'.key=looseK i.key/\(i'.ea=none/\i'.ec=0)/\(encQ i'.q).all one?=true/\w = .agg [.bool i'.known,.slice i'.ea i'.ex.length i'.ec,.slice i'.pa i'.pre.length i'.pc,.slice i'.sa i'.suf.length i'.sc,.int .i64 i'.q.kind,i'.q.gv,i'.q.sv].toArray/\H=[IC r i']:=by
 refine tri_cv (Tri.lendI (R:=fun r' w H => ∃ i':InfV,i'.key=looseK i.key/\(i'.ea=none/\i'.ec=0)/\(encQ i'.q).all one?=true/\w = .agg [.bool i'.known,.slice i'.ea i'.ex.length i'.ec,.slice i'.pa i'.pre.length i'.pc,.slice i'.sa i'.suf.length i'.sc,.int .i64 i'.q.kind,i'.q.gv,i'.q.sv].toArray/\H=[IC r' i']) fun r' g s1 s2 _ h1=>loose_any r' (hT.mono s1) i ⟨txC_els h1 s2,hp.mono s1,hs.mono s1,hq.mono s1⟩ hf ho) ?_
 rintro w H ⟨r',g,H'',s1,s2,h1,⟨i',hk,hz,ho',rfl,rfl⟩,rfl⟩
 refine ⟨_,⟨i',hk,hz,ho',rfl,rfl⟩,fun k hk=>?_⟩
 obtain ⟨g1,g2,d,rfl,rfl,h2⟩:=hk
 have h2:=all_one.1 h2
 exact all_one.2 fun r'' t1 t2=>h2 r'' (s2 r'' t1 fun b o e=>t2 b o (un_left e)) fun b o e=>t2 b o (un_right d e)
theorem settledS_any (r:Hp) (i:InfV) (hi:InfR r i) (hf:FitI i.key) (ho:(encQ i.q).all one?=true) (hk:i.known=true) (hs:smallK (rowT i.ex)=true):Tri Tryz.prog r 46 [.agg [.bool i.known,.slice i.ea i.ex.length i.ec,.slice i.pa i.pre.length i.pc,.slice i.sa i.suf.length i.sc,.int .i64 i.q.kind,i.q.gv,i.q.sv].toArray] [] fun w H => ∃ a c,w = .agg [.bool true,.slice a (rowT i.ex).length c,.slice none 0 0,.slice none 0 0,.int .i64 i.q.kind,i.q.gv,i.q.sv].toArray/\H=[TxC a c (rowT i.ex)]:=by
 have hl1:=sizeT_len i.ex
 have hb1:=hf.ex
 dsimp only [InfV.key] at hb1
 have hr1:=row_any r _ i.ex hi.ex (by omega)
 obtain ⟨X,hX⟩ : ∃ X,rowT i.ex=X:=⟨_,rfl⟩
 rw [hX] at hr1 hs ⊢
 have hsm : ∀ r' g a c,sub g r'->TxC a c X g->Tri Tryz.prog r' 79 [.slice a X.length c] [] fun w H=>w = .bool true/\H=[]:=fun r' g a c h1 h2=>by
  have h:=small_any r' _ X (txC_els h2 h1)
  rw [hs] at h
  exact h
 obtain ⟨known,ea,ec,ex,pa,pc,pre,sa,sc,suf,q⟩:=i
 dsimp only at hk hr1 ho ⊢
 subst hk
 have h7 : ∀ a1 n1 c1 a2 n2 c2 a3 n3 c3 (q:QuV),(encQ q).all one?=true->([.bool true,.slice a1 n1 c1,.slice a2 n2 c2,.slice a3 n3 c3,.int .i64 q.kind,q.gv,q.sv]:List Value).all one?=true:=fun a1 n1 c1 a2 n2 c2 a3 n3 c3 q ho=>by
  have h':=one3 ho
  simp only [List.all_cons,Bool.and_eq_true] at h' ⊢
  exact ⟨rfl,rfl,rfl,rfl,h'⟩
 clear hi hf hb1 hl1 hX hs
 refine Tri.free2 fun R HR=>?_
 refine ae Tryz.func46 Tryz.ntmps46 ?_
 repeat' (first|((with_reducible apply kx_box);rfl;(exact qcl);intro b1;(refine apk ?_))|((with_reducible apply kx_alloc (E:=40));exact ty_zero;(exact qcl);intro b2;(refine apk ?_))|(refine acl Tryz.func48 ?_;refine acr (hr1) ?_;rintro v' H' ⟨a1,c1,rfl,rfl⟩;refine apl ?_)|((with_reducible refine swo_isCall 79 ?_);(with_reducible apply kx_lendC (A:=TxC a1 c1 X));(exact atk);intro r1 g1 hr1' hg1 hA1;(refine acl Tryz.func79 ?_;refine acr (hsm r1 g1 a1 c1 hg1 hA1) ?_;rintro v' H' ⟨rfl,rfl⟩;refine apl ?_))|((with_reducible apply kx_ldP);rfl;(exact atk);(simp only [cut,List.drop_succ_cons,List.drop_zero,List.take_succ_cons,List.take_zero];rfl);rfl;(refine apk ?_))|((with_reducible apply kx_storeN);exact ty_size;rfl;rfl;rfl;(exact qsw);exact h7 _ _ _ _ _ _ _ _ _ _ ho;(exact qst);(refine apk ?_))|exact xf|refine aw0 ?_|(refine ap2 ?_ ?_<;>try intro h)|refine aw1 ?_|(refine abx ?_;intro bb)|(refine abz ?_;intro bz)|(refine ahv ?_;intro v' hv')|(refine aac ?_;intro ac cc)|refine aw2 ?_|(refine ap4 ?_ ?_<;>try intro h)|apply True.intro)
 ((with_reducible apply fp_ret);exact res_W rfl rfl atk ty_agg ty_size rfl)
 exact HR.out _ _ _ [TxC a1 c1 X] atks ⟨a1,c1,rfl,rfl⟩
theorem settledL_any (r:Hp) (hT:TabR r) (i:InfV) (hi:InfR r i) (hf:FitI i.key) (hz:sizeQ i.key.m<=5000000) (ho:(encQ i.q).all one?=true) (hn:¬ (i.known=true/\smallK (rowT i.ex)=true)):Tri Tryz.prog r 46 [.agg [.bool i.known,.slice i.ea i.ex.length i.ec,.slice i.pa i.pre.length i.pc,.slice i.sa i.suf.length i.sc,.int .i64 i.q.kind,i.q.gv,i.q.sv].toArray] [] fun w H => ∃ i':InfV,i'.key=settledK i.key/\(encQ i'.q).all one?=true/\w = .agg [.bool i'.known,.slice i'.ea i'.ex.length i'.ec,.slice i'.pa i'.pre.length i'.pc,.slice i'.sa i'.suf.length i'.sc,.int .i64 i'.q.kind,i'.q.gv,i'.q.sv].toArray/\H=[OwnI i']:=by
 have hl1:=sizeT_len i.ex
 have hb1:=hf.ex
 dsimp only [InfV.key] at hb1
 have hr1:=row_any r _ i.ex hi.ex (by omega)
 have hset:settledK i.key=openK ⟨i.known,rowT i.ex,i.pre,i.suf,i.q.key⟩:=by unfold settledK;rw [if_neg (show ¬ (i.key.known=true/\smallK (rowT i.key.ex)=true) from hn)];rfl
 obtain ⟨X,hX⟩ : ∃ X,rowT i.ex=X:=⟨_,rfl⟩
 have hf1:FitI ⟨i.known,X,i.pre,i.suf,i.q.key⟩:=⟨by rw [← hX];exact Nat.le_trans (sizeT_row _) hf.ex,hf.pre,hf.suf,hf.m,hf.right⟩
 rw [hX] at hr1 hn hset
 have hsm : ∀ r' g a c,sub g r'->TxC a c X g->Tri Tryz.prog r' 79 [.slice a X.length c] [] fun w H=>w = .bool (smallK X)/\H=[]:=fun r' g a c h1 h2=>small_any r' _ X (txC_els h2 h1)
 have hlo:=fun a c=>looseO_any r hT ⟨i.known,a,c,X,i.pa,i.pc,i.pre,i.sa,i.sc,i.suf,i.q⟩ hi.pre hi.suf hi.q hf1 ho
 obtain ⟨f1,f2,f3,f4,f5,f6⟩:=loose_fit hf1
 have hlok : ∀ a c,looseK (InfV.key ⟨i.known,a,c,X,i.pa,i.pc,i.pre,i.sa,i.sc,i.suf,i.q⟩)=looseK ⟨i.known,X,i.pre,i.suf,i.q.key⟩:=fun _ _=>rfl
 obtain ⟨L,hL⟩ : ∃ L,looseK ⟨i.known,X,i.pre,i.suf,i.q.key⟩=L:=⟨_,rfl⟩
 have hop:settledK i.key=⟨false,[],fixedK frontT L.pre,fixedK backT L.suf,closedK L⟩:=by rw [hset];unfold openK;rw [hL]
 simp only [hlok] at hlo
 rw [hL] at f1 f2 f3 f4 f5 f6 hlo
 have hfL : ∀ i':InfV,i'.key=L->FitI i'.key:=fun i' h=>by
  rw [h]
  have:sizeQ (⟨i.known,X,i.pre,i.suf,i.q.key⟩:InfK).m<=5000000:=hz
  exact ⟨by rw [f6];simp [sizeT],f1,f2,by omega,f4⟩
 have hcl : ∀ r' g (i':InfV),i'.key=L->(encQ i'.q).all one?=true->sub r r'->IC r i' g->sub g r'->Tri Tryz.prog r' 15 [.agg [.bool i'.known,.slice i'.ea i'.ex.length i'.ec,.slice i'.pa i'.pre.length i'.pc,.slice i'.sa i'.suf.length i'.sc,.int .i64 i'.q.kind,i'.q.gv,i'.q.sv].toArray] [] fun w H => ∃ q:QuV,q.key=closedK L/\(encQ q).all one?=true/\w = .agg [.int .i64 q.kind,q.gv,q.sv].toArray/\H=[OwnQ q]:=fun r' g i' k o s1 h1 s2=>by
  have h:=closed_any r' (hT.mono s1) i' (h1 r' s1 s2) (hfL i' k) o
  rw [k] at h
  exact h
 have hfa : ∀ r' g (i':InfV),i'.key=L->sub r r'->IC r i' g->sub g r'->Tri Tryz.prog r' 80 [.slice i'.pa i'.pre.length i'.pc,.func (.func 81) #[] #[]] [] fun w H => ∃ a c,w = .slice a (fixedK frontT L.pre).length c/\H=[TxC a c (fixedK frontT L.pre)]:=fun r' g i' k s1 h1 s2=>by
  have h:=fixedF_any r' _ i'.pre (h1 r' s1 s2).pre (by rw [← k] at f1;exact f1)
  rw [← k];exact h
 have hfb : ∀ r' g (i':InfV),i'.key=L->sub r r'->IC r i' g->sub g r'->Tri Tryz.prog r' 80 [.slice i'.sa i'.suf.length i'.sc,.func (.func 82) #[] #[]] [] fun w H => ∃ a c,w = .slice a (fixedK backT L.suf).length c/\H=[TxC a c (fixedK backT L.suf)]:=fun r' g i' k s1 h1 s2=>by
  have h:=fixedB_any r' _ i'.suf (h1 r' s1 s2).suf (by rw [← k] at f2;exact f2)
  rw [← k];exact h
 rw [hop]
 have hLk : ∀ i':InfV,i'.key=L->i'.known=false/\i'.ex=[]:=fun i' h=>⟨by rw [← h] at f5;exact f5,by rw [← h] at f6;exact f6⟩
 obtain ⟨P,hP⟩ : ∃ P,fixedK frontT L.pre=P:=⟨_,rfl⟩
 obtain ⟨S,hS⟩ : ∃ S,fixedK backT L.suf=S:=⟨_,rfl⟩
 obtain ⟨Z,hZ⟩ : ∃ Z,closedK L=Z:=⟨_,rfl⟩
 rw [hP] at hfa
 rw [hS] at hfb
 rw [hZ] at hcl
 rw [hP,hS,hZ]
 obtain ⟨b,hb⟩ : ∃ b,smallK X=b:=⟨_,rfl⟩
 rw [hb] at hsm hn
 obtain ⟨known,ea,ec,ex,pa,pc,pre,sa,sc,suf,q⟩:=i
 dsimp only at hn hr1 ho hlo ⊢
 have h7 : ∀ k a1 n1 c1 a2 n2 c2 a3 n3 c3 (q:QuV),(encQ q).all one?=true->([.bool k,.slice a1 n1 c1,.slice a2 n2 c2,.slice a3 n3 c3,.int .i64 q.kind,q.gv,q.sv]:List Value).all one?=true:=fun k a1 n1 c1 a2 n2 c2 a3 n3 c3 q ho=>by
  have h':=one3 ho
  simp only [List.all_cons,Bool.and_eq_true] at h' ⊢
  exact ⟨rfl,rfl,rfl,rfl,h'⟩
 clear hi hf hf1 hb1 hl1 hX hset hop hL hfL f1 f2 f3 f4 f5 f6 hP hS hZ hz hlok hb
 refine Tri.freeI fun R HR=>?_
 refine ae Tryz.func46 Tryz.ntmps46 ?_
 cases known<;>cases b
 all_goals try (exact absurd ⟨rfl,rfl⟩ hn)
 all_goals
  repeat' (first|((with_reducible apply kx_box);rfl;(exact qcl);intro b1;(refine apk ?_))|((with_reducible apply kx_alloc (E:=40));exact ty_zero;(exact qcl);intro b2;(refine apk ?_))|(refine acl Tryz.func48 ?_;refine acr (hr1) ?_;rintro v' H' ⟨a1,c1,rfl,rfl⟩;refine apl ?_)|((with_reducible refine swo_isCall 79 ?_);(with_reducible apply kx_lendC (A:=TxC a1 c1 X));(exact atk);intro r1 g1 hr1' hg1 hA1;(refine acl Tryz.func79 ?_;refine acr (hsm r1 g1 a1 c1 hg1 hA1) ?_;rintro v' H' ⟨rfl,rfl⟩;refine apl ?_))|(refine acl Tryz.func36 ?_;refine acr (hlo a1 c1) ?_;rintro v' H' ⟨i',hik,hiz,hio,rfl,rfl⟩;refine apl ?_)|((with_reducible apply kx_storeN);exact ty_size;rfl;rfl;rfl;(exact qsw);exact h7 _ _ _ _ _ _ _ _ _ _ _ hio;(exact qst);(refine apk ?_))|((with_reducible refine swo_isCall 15 ?_);(with_reducible apply kx_lendC (A:=IC r i'));(exact atk);intro r1 g1 hr1' hg1 hA1;(refine acl Tryz.func15 ?_;refine acr (hcl r1 g1 i' hik hio hr1' hA1 hg1) ?_;rintro v' H' ⟨q3,hq31,hq32,rfl,rfl⟩;refine apl ?_))|((with_reducible apply kx_storeN);exact ty_size;rfl;rfl;rfl;(exact qsw);exact one3 hq32;(exact qst);(refine apk ?_))|((with_reducible refine swo_isCall 80 ?_);(with_reducible apply kx_lendC (A:=IC r i'));(exact atk);intro r1 g1 hr1' hg1 hA1;(first|(refine acl Tryz.func80 ?_;refine acr (hfa r1 g1 i' hik hr1' hA1 hg1) ?_;rintro v' H' ⟨a4,c4,rfl,rfl⟩;refine apl ?_)|(refine acl Tryz.func80 ?_;refine acr (hfb r1 g1 i' hik hr1' hA1 hg1) ?_;rintro v' H' ⟨a5,c5,rfl,rfl⟩;refine apl ?_)))|((with_reducible apply kx_storeN);exact ty_size;rfl;rfl;rfl;(exact qsw);exact h7 _ _ _ _ _ _ _ _ _ _ _ hq32;(exact qst);(refine apk ?_))|exact xf|refine aw0 ?_|(refine ap2 ?_ ?_<;>try intro h)|refine aw1 ?_|(refine abx ?_;intro bb)|(refine abz ?_;intro bz)|(refine ahv ?_;intro v' hv')|(refine aac ?_;intro ac cc)|refine aw2 ?_|(refine ap4 ?_ ?_<;>try intro h)|apply True.intro)
  ((with_reducible apply fp_ret);exact res_W rfl rfl atk ty_agg ty_size rfl)
  refine HR.out _ _ _ [OwnI ⟨false,none,0,[],a4,c4,P,a5,c5,S,q3⟩] (takesI (As:=[TxC a4 c4 P,TxC a5 c5 S,OwnQ q3]) (G2:=[]) atks fun h e=>all_one.2 ⟨emp,h,emp_dj,emp_un.symm,RowC.nil _ _,e⟩) ⟨_,?_,hq32,?_,rfl⟩
  · show InfK.mk _ _ _ _ _=_
    rw [hq31]
  · rw [(hLk i' hik).1,(hLk i' hik).2,hiz.1,hiz.2]
end Go.Proofs.YteknekiclhnkiaaGreatDoor
