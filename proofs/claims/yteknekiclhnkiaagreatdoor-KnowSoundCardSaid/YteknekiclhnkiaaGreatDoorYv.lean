/- set.Has, text.spot; asker's none, bytes, here, behind, alt: their contracts. -/
import Derived.Test.YteknekiclhnkiaaGreatDoorYt
set_option maxHeartbeats 8000000
set_option maxRecDepth 10000
namespace Go.Proofs.YteknekiclhnkiaaGreatDoor
open Go.RowKit Sx
abbrev TbC (a:Option Addr) (c:Nat) (T:List Nat):Ch:=RowC 74 4 (.slice a T.length c) T.length (T.flatMap encE)
theorem encE_len (e:Nat):(encE e).length=4:=rfl
theorem tbC_els {a:Option Addr} {c:Nat} {T:List Nat} {g r:Hp} (h:TbC a c T g) (hs:sub g r):Els r 4 encE (.slice a T.length c) T:=⟨encE_len,h.sl hs⟩
theorem set_snocR (T:List Nat) (k e:Nat):(T++List.replicate (k+1) 0).set T.length e=(T++[e])++List.replicate k 0:=by
 rw [List.set_append_right _ _ (Nat.le_refl _),Nat.sub_self,List.replicate_succ,List.set_cons_zero,List.append_assoc];rfl
theorem rep_flat (n:Nat):(List.replicate (n+1) (encE 0)).flatten=([]++List.replicate (n+1 - 0) 0).flatMap encE:=by simp [List.flatMap]
theorem each_rel (r:Hp) (v:Value) (s:Tx) (hv:U8S r v s) (hs:s.length<=62) (gf:FuncId) (cap:List Value) (hg:GoesTo Tryz.prog gf) (J:Nat->Ch) (Good:Nat->Nat->Prop) (hf : ∀ i,i<=s.length->Tri Tryz.prog r gf (.int .i64 (i:Nat)::cap) [J i] fun w H => ∃ e,Good i e/\w = .agg (encE e).toArray/\H=[J (i+1)]) :
 Tri Tryz.prog r 87 [v,.func (.func gf) #[] cap.toArray] [J 0] fun w H => ∃ T a c,T.length=s.length+1/\(∀ i,i<=s.length->Good i (T.getD i 0))/\w = .slice a T.length c/\H=[TbC a c T,J (s.length+1)]:=by
 refine Tri.free2 fun R HR=>?_
 refine ae Tryz.func87 Tryz.ntmps87 ?_
 repeat' (first|((with_reducible apply kx_makeNN (n:=s.length+1) (zs:=encE 0));exact ty_el;exact ty_inf;rfl;rfl;rfl;rfl;(omega);(omega);(omega);intro bm;(refine apk ?_))|exact xf|refine aw0 ?_|(refine ap2 ?_ ?_<;>try intro h)|refine aw1 ?_|(refine abx ?_;intro bb)|(refine abz ?_;intro bz)|(refine ahv ?_;intro v' hv')|(refine aac ?_;intro ac cc)|refine aw2 ?_|(refine ap4 ?_ ?_<;>try intro h)|apply True.intro)
 rw [rep_flat s.length]
 refine sw_loop (fun gm t H' => ∃ (i:Nat) (T:List Nat),gm=s.length+2 - i/\(i<=s.length+1)/\(T.length=i)/\(∀ j,j<i->Good j (T.getD j 0))/\(∃ G,Takes [RowC 74 4 (.slice (some ⟨bm,0,none⟩) (s.length+1) (s.length+1)) (s.length+1) ((T++List.replicate (s.length+1 - i) 0).flatMap encE),J i] H' G)/\Sls t 24 [(1,.func (.func gf) #[] cap.toArray),(5,.slice (some ⟨bm,0,none⟩) (s.length+1) (s.length+1)),(12,.int .i64 (s.length+1:Nat)),(13,.int .i64 i)]) _ ⟨0,[],rfl,Nat.zero_le _,rfl,(fun j h=>absurd h (Nat.not_lt_zero j)),⟨_,atks⟩,asls⟩ ?_
 rintro gm t H' ⟨i,T,rfl,hi,hTl,hTg,⟨G,hp⟩,hs'⟩
 revert t;refine sls_all ?_;iterate 20 intro uu'
 refine sw_takeG hp ?_;clear hp
 have hel:(T++List.replicate (s.length+1 - i) 0).length=s.length+1:=by rw [List.length_append,List.length_replicate];omega
 by_cases hlt:i<s.length+1
 · have hfi:=hf i (by omega)
   repeat' (first|((with_reducible apply kx_call (f:=gf) (cap:=cap));exact hg;rfl;rfl;exact hfi;(exact atks);rintro v' H' ⟨e,hge,rfl,rfl⟩;all_goals ((try simp only [List.cons_append,List.nil_append]);(refine apk ?_)))|(first|((with_reducible apply pi_pur);rfl;(exact qwt);(with_reducible apply pu_ixF);rfl;rfl;(omega);(refine apk ?_))|((with_reducible apply swo_pur);(with_reducible apply pu_ixF);rfl;rfl;(omega);(refine apk ?_)))|((with_reducible apply (kx_stE (z:=e) (enc:=encE) (i:=i)));exact encE_len;rfl;exact ty_size;rfl;rfl;(exact atk);exact encE_one _;(omega);(refine apk ?_))|exact xf|refine aw0 ?_|(refine ap2 ?_ ?_<;>try intro h)|refine aw1 ?_|(refine abx ?_;intro bb)|(refine abz ?_;intro bz)|(refine ahv ?_;intro v' hv')|(refine aac ?_;intro ac cc)|refine aw2 ?_|(refine ap4 ?_ ?_<;>try intro h)|apply True.intro)
   have hset:(T++List.replicate (s.length+1 - i) 0).set i e=(T++[e])++List.replicate (s.length+1 - (i+1)) 0:=by
    rw [← hTl,show s.length+1 - T.length=(s.length+1 - (T.length+1))+1 by omega,set_snocR]
   exact ⟨_,by omega,i+1,T++[e],rfl,by omega,by rw [List.length_append,hTl];rfl,(fun j hj=>by
    rw [List.getD_eq_getElem?_getD]
    by_cases h:j<i
    · rw [List.getElem?_append_left (by omega),← List.getD_eq_getElem?_getD];exact hTg j h
    · obtain rfl:j=T.length:=by omega
      rw [List.getElem?_append_right (Nat.le_refl _),Nat.sub_self,hTl];exact hge),⟨_,by rw [← hset];exact atks⟩,asls⟩
 · obtain rfl:i=s.length+1:=by omega
   rw [Nat.sub_self,List.replicate_zero,List.append_nil]
   repeat' (first|exact xf|refine aw0 ?_|(refine ap2 ?_ ?_<;>try intro h)|refine aw1 ?_|(refine abx ?_;intro bb)|(refine abz ?_;intro bz)|(refine ahv ?_;intro v' hv')|(refine aac ?_;intro ac cc)|refine aw2 ?_|(refine ap4 ?_ ?_<;>try intro h)|apply True.intro)
   ((with_reducible apply fp_ret);exact res_1 rfl rfl)
   exact HR.out _ _ _ [TbC _ _ T,J (s.length+1)] (by unfold TbC;rw [hTl];(exact atks)) ⟨T,some ⟨bm,0,none⟩,s.length+1,hTl,(fun j hj=>hTg j (by omega)),by rw [hTl],rfl⟩
theorem tab_of {n:Nat} {f:Nat->Nat} {T:List Nat} (h:T.length=n+1) (k : ∀ i,i<=n->T.getD i 0=f i):T=tabM n f:=by
 apply List.ext_getElem
 · rw [tabM_len,h]
 · intro i h1 h2
   have h3:=k i (by omega)
   have h4:=tabM_get (f:=f) (show i<n+1 by omega)
   rw [List.getD_eq_getElem?_getD,List.getElem?_eq_getElem h1] at h3
   rw [List.getD_eq_getElem?_getD,List.getElem?_eq_getElem h2] at h4
   exact h3.trans h4.symm
theorem each_any (r:Hp) (v:Value) (s:Tx) (hv:U8S r v s) (hs:s.length<=62) (gf:FuncId) (cap:List Value) (hg:GoesTo Tryz.prog gf) (J:Nat->Ch) (f:Nat->Nat) (hf : ∀ i,i<=s.length->Tri Tryz.prog r gf (.int .i64 (i:Nat)::cap) [J i] fun w H=>w = .agg (encE (f i)).toArray/\H=[J (i+1)]) :
 Tri Tryz.prog r 87 [v,.func (.func gf) #[] cap.toArray] [J 0] fun w H => ∃ a c,w = .slice a (tabM s.length f).length c/\H=[TbC a c (tabM s.length f),J (s.length+1)] :=
 (each_rel r v s hv hs gf cap hg J (fun i e=>e=f i) fun i hi=>(hf i hi).mono fun w H ⟨h1,h2⟩=>⟨f i,rfl,h1,h2⟩).mono fun w H ⟨T,a,c,hl,hg,h1,h2⟩=>by
  obtain rfl:=tab_of hl hg
  exact ⟨a,c,h1,h2⟩
abbrev noJ:Ch:=fun g=>g=emp
theorem elsJ {r:Hp} {b i:Nat} {T:TypeId} {fz:Nat × Nat} (h:r b=some (.cells [.int .i64 (i:Nat)].toArray T fz)):Els r 1 encJ (.slice (some ⟨b,0,none⟩) 1 1) [i]:=⟨fun _=>rfl,Sl.lit (n:=1) h rfl (by simp [maxLen])⟩
theorem eputO_any (r:Hp) (b e i bz:Nat) (T:TypeId) (hi:i<64) (he:e<2 ^ 64):Tri Tryz.prog r 91 [.pointer (some ⟨b,0,none⟩),.slice (some ⟨bz,0,none⟩) 1 1] [pt bz (.cells [.int .i64 (i:Nat)].toArray T (0,0)),ebox b e] fun _ H=>H=[ebox b (orN e (2 ^ i))] :=
 Tri.frz fun r1 g1 s1 t1 h1=>eput_any r1 b e i _ (elsJ (T:=T) (fz:=(0,0)) (t1 _ _ (by rw [show g1=Sx.one bz _ from h1];exact Sx.one_same))) hi he
theorem still1_any (r:Hp) (i:Nat) (hi:i<64):Tri Tryz.prog r 125 [.int .i64 (i:Nat)] [] fun w H=>w = .agg (encE (2 ^ i)).toArray/\H=[]:=by
 have hp:=fun b bz=>eputO_any r b 0 i bz 3 hi (by omega)
 have h0:orN 0 (2 ^ i)=2 ^ i:=Nat.zero_or _
 refine Tri.free2 fun R HR=>?_
 refine ae Tryz.func125 Tryz.ntmps125 ?_
 repeat' (first|(rw [h0])|((with_reducible apply kx_alloc (E:=74));exact ty_zero;(exact qcl);intro b2;(refine apk ?_))|(first|((with_reducible apply kx_bs1);exact ty_el;exact ty_inf;rfl;rfl;rfl;intro bz;(refine apk ?_))|((with_reducible apply kx_bsN);exact ty_el;exact ty_inf;rfl;rfl;rfl;intro bz;(refine apk ?_)))|(refine acl Tryz.func91 ?_;refine acr (hp b2 bz) ?_;rintro v' H' rfl;all_goals refine apl ?_)|exact xf|refine aw0 ?_|(refine ap2 ?_ ?_<;>try intro h)|refine aw1 ?_|(refine abx ?_;intro bb)|(refine abz ?_;intro bz)|(refine ahv ?_;intro v' hv')|(refine aac ?_;intro ac cc)|refine aw2 ?_|(refine ap4 ?_ ?_<;>try intro h)|apply True.intro)
 ((with_reducible apply fp_ret);exact res_W rfl rfl atk ty_agg ty_size rfl)
 exact HR.out _ _ _ [] atks ⟨rfl,rfl⟩
theorem none1_any (r:Hp) (i:Nat):Tri Tryz.prog r 88 [.int .i64 (i:Nat)] [] fun w H=>w = .agg (encE 0).toArray/\H=[]:=by
 refine Tri.free2 fun R HR=>?_
 refine ae Tryz.func88 Tryz.ntmps88 ?_
 repeat' (first|((with_reducible apply kx_alloc (E:=74));exact ty_zero;(exact qcl);intro b2;(refine apk ?_))|exact xf|refine aw0 ?_|(refine ap2 ?_ ?_<;>try intro h)|refine aw1 ?_|(refine abx ?_;intro bb)|(refine abz ?_;intro bz)|(refine ahv ?_;intro v' hv')|(refine aac ?_;intro ac cc)|refine aw2 ?_|(refine ap4 ?_ ?_<;>try intro h)|apply True.intro)
 ((with_reducible apply fp_ret);exact res_W rfl rfl atk ty_agg ty_size rfl)
 exact HR.out _ _ _ [] atks ⟨rfl,rfl⟩
theorem Sx.Tri.addJ {P:Program} {r:Hp} {f:FuncId} {args:List Value} {w0:Value} (h:Tri P r f args [] fun w H=>w=w0/\H=[]):Tri P r f args [noJ] fun w H=>w=w0/\H=[noJ] :=
 Tri.frz fun r1 g1 s1 t1 h1=>tri_cv (h.up s1) fun w H ⟨e1,e2⟩=>⟨_,⟨e1,rfl⟩,fun g e=>by subst e2;exact all_emp (A:=noJ) rfl e⟩
theorem still_any (r:Hp) (v:Value) (s:Tx) (hv:U8S r v s) (hs:s.length<=62) (_hv1:one? v=true):Tri Tryz.prog r 86 [.agg [v].toArray] [] fun w H => ∃ a c,w = .slice a (stillT s.length).length c/\H=[TbC a c (stillT s.length)]:=by
 have he:=each_any r v s hv hs 125 [] (goesOf Tryz.func125 (by kernel_rfl) rfl) (fun _=>noJ) (fun i=>2 ^ i) fun i hi=>(still1_any r i (by omega)).addJ
 refine Tri.free2 fun R HR=>?_
 refine ae Tryz.func86 Tryz.ntmps86 ?_
 refine sw_put (A:=noJ) rfl ?_
 repeat' (first|((with_reducible apply kx_box);rfl;(exact qcl);intro b1;(refine apk ?_))|(refine acl Tryz.func87 ?_;refine acr (he) ?_;rintro v' H' ⟨a,c,rfl,rfl⟩;refine apl ?_)|exact xf|refine aw0 ?_|(refine ap2 ?_ ?_<;>try intro h)|refine aw1 ?_|(refine abx ?_;intro bb)|(refine abz ?_;intro bz)|(refine ahv ?_;intro v' hv')|(refine aac ?_;intro ac cc)|refine aw2 ?_|(refine ap4 ?_ ?_<;>try intro h)|apply True.intro)
 ((with_reducible apply fp_ret);exact res_1 rfl rfl)
 exact HR.out _ _ _ [TbC a c (stillT s.length)] atks ⟨a,c,rfl,rfl⟩
theorem has_any (r:Hp) (s0 s1 s2 s3:Nat) (c:UInt8) (h0:s0<2 ^ 64) (h1:s1<2 ^ 64) (h2:s2<2 ^ 64) (h3:s3<2 ^ 64):Tri Tryz.prog r 90 [.agg [.int .u64 s0,.int .u64 s1,.int .u64 s2,.int .u64 s3].toArray,.int .u8 (c.toNat:Nat)] [] fun w H=>w = .bool (hasS [s0,s1,s2,s3] c.toNat)/\H=[]:=by
 have hc:=c.toNat_lt
 unfold hasS
 obtain ⟨b,hb⟩ : ∃ b,c.toNat=b:=⟨_,rfl⟩
 rw [hb] at hc ⊢
 clear hb
 refine Tri.free2 fun R HR=>?_
 have hq:b / 64=0\/b / 64=1\/b / 64=2\/b / 64=3:=by omega
 rcases hq with hq|hq|hq|hq
 · rw [hq] at HR
   simp only [List.getD_cons_zero] at HR
   have hbo:=bit_ok h0 (k:=b % 64) (Nat.mod_lt _ (by omega))
   rw [show (b % 64)=(((b:Nat):Int) % 64).toNat by omega] at hbo HR
   refine ae Tryz.func90 Tryz.ntmps90 ?_
   repeat' (first|((with_reducible apply kx_box);rfl;(exact qcl);intro b1;(refine apk ?_))|((with_reducible apply swo_pur);(with_reducible apply pu_ixArr (q:=0));exact Tryz.underlying25;exact ty_size;rfl;rfl;(first|omega|(simp only [Int.tdiv_eq_ediv_of_nonneg];omega));(omega);(refine apk ?_))|(rw [hbo])|exact xf|refine aw0 ?_|(refine ap2 ?_ ?_<;>try intro h)|refine aw1 ?_|(refine abx ?_;intro bb)|(refine abz ?_;intro bz)|(refine ahv ?_;intro v' hv')|(refine aac ?_;intro ac cc)|refine aw2 ?_|(refine ap4 ?_ ?_<;>try intro h)|apply True.intro)
   ((with_reducible apply fp_ret);exact res_1 rfl rfl)
   exact HR.out _ _ _ [] atks ⟨congrArg Value.bool (by cases s0.testBit (((b:Nat):Int) % 64).toNat<;>rfl),rfl⟩
 · rw [hq] at HR
   simp only [List.getD_cons_zero,List.getD_cons_succ] at HR
   have hbo:=bit_ok h1 (k:=b % 64) (Nat.mod_lt _ (by omega))
   rw [show (b % 64)=(((b:Nat):Int) % 64).toNat by omega] at hbo HR
   refine ae Tryz.func90 Tryz.ntmps90 ?_
   repeat' (first|((with_reducible apply kx_box);rfl;(exact qcl);intro b1;(refine apk ?_))|((with_reducible apply swo_pur);(with_reducible apply pu_ixArr (q:=1));exact Tryz.underlying25;exact ty_size;rfl;rfl;(first|omega|(simp only [Int.tdiv_eq_ediv_of_nonneg];omega));(omega);(refine apk ?_))|(rw [hbo])|exact xf|refine aw0 ?_|(refine ap2 ?_ ?_<;>try intro h)|refine aw1 ?_|(refine abx ?_;intro bb)|(refine abz ?_;intro bz)|(refine ahv ?_;intro v' hv')|(refine aac ?_;intro ac cc)|refine aw2 ?_|(refine ap4 ?_ ?_<;>try intro h)|apply True.intro)
   ((with_reducible apply fp_ret);exact res_1 rfl rfl)
   exact HR.out _ _ _ [] atks ⟨congrArg Value.bool (by cases s1.testBit (((b:Nat):Int) % 64).toNat<;>rfl),rfl⟩
 · rw [hq] at HR
   simp only [List.getD_cons_zero,List.getD_cons_succ] at HR
   have hbo:=bit_ok h2 (k:=b % 64) (Nat.mod_lt _ (by omega))
   rw [show (b % 64)=(((b:Nat):Int) % 64).toNat by omega] at hbo HR
   refine ae Tryz.func90 Tryz.ntmps90 ?_
   repeat' (first|((with_reducible apply kx_box);rfl;(exact qcl);intro b1;(refine apk ?_))|((with_reducible apply swo_pur);(with_reducible apply pu_ixArr (q:=2));exact Tryz.underlying25;exact ty_size;rfl;rfl;(first|omega|(simp only [Int.tdiv_eq_ediv_of_nonneg];omega));(omega);(refine apk ?_))|(rw [hbo])|exact xf|refine aw0 ?_|(refine ap2 ?_ ?_<;>try intro h)|refine aw1 ?_|(refine abx ?_;intro bb)|(refine abz ?_;intro bz)|(refine ahv ?_;intro v' hv')|(refine aac ?_;intro ac cc)|refine aw2 ?_|(refine ap4 ?_ ?_<;>try intro h)|apply True.intro)
   ((with_reducible apply fp_ret);exact res_1 rfl rfl)
   exact HR.out _ _ _ [] atks ⟨congrArg Value.bool (by cases s2.testBit (((b:Nat):Int) % 64).toNat<;>rfl),rfl⟩
 · rw [hq] at HR
   simp only [List.getD_cons_zero,List.getD_cons_succ] at HR
   have hbo:=bit_ok h3 (k:=b % 64) (Nat.mod_lt _ (by omega))
   rw [show (b % 64)=(((b:Nat):Int) % 64).toNat by omega] at hbo HR
   refine ae Tryz.func90 Tryz.ntmps90 ?_
   repeat' (first|((with_reducible apply kx_box);rfl;(exact qcl);intro b1;(refine apk ?_))|((with_reducible apply swo_pur);(with_reducible apply pu_ixArr (q:=3));exact Tryz.underlying25;exact ty_size;rfl;rfl;(first|omega|(simp only [Int.tdiv_eq_ediv_of_nonneg];omega));(omega);(refine apk ?_))|(rw [hbo])|exact xf|refine aw0 ?_|(refine ap2 ?_ ?_<;>try intro h)|refine aw1 ?_|(refine abx ?_;intro bb)|(refine abz ?_;intro bz)|(refine ahv ?_;intro v' hv')|(refine aac ?_;intro ac cc)|refine aw2 ?_|(refine ap4 ?_ ?_<;>try intro h)|apply True.intro)
   ((with_reducible apply fp_ret);exact res_1 rfl rfl)
   exact HR.out _ _ _ [] atks ⟨congrArg Value.bool (by cases s3.testBit (((b:Nat):Int) % 64).toNat<;>rfl),rfl⟩
theorem feed_any (r:Hp) (v:Value) (s:Tx) (hv:U8S r v s) (i:Int) (h1 : -1<=i) (h2:i<=1000):Tri Tryz.prog r 127 [v,.int .i64 i] [] fun w H=>(∃ b,w = .bool b)/\H=[]:=by
 refine Tri.free2 fun R HR=>?_
 refine ae Tryz.func127 Tryz.ntmps127 ?_
 repeat' (first|exact xf|refine aw0 ?_|(refine ap2 ?_ ?_<;>try intro h)|refine aw1 ?_|(refine abx ?_;intro bb)|(refine abz ?_;intro bz)|(refine ahv ?_;intro v' hv')|(refine aac ?_;intro ac cc)|refine aw2 ?_|(refine ap4 ?_ ?_<;>try intro h)|apply True.intro)
 all_goals
  ((with_reducible apply fp_ret);exact res_1 rfl rfl)
  exact HR.out _ _ _ [] atks ⟨⟨_,rfl⟩,rfl⟩
theorem word_any (r:Hp) (v:Value) (s:Tx) (hv:U8S r v s) (i:Int) (h1 : -1<=i) (h2:i<=1000):Tri Tryz.prog r 128 [v,.int .i64 i] [] fun w H=>(∃ b,w = .bool b)/\H=[]:=by
 refine Tri.free2 fun R HR=>?_
 refine ae Tryz.func128 Tryz.ntmps128 ?_
 repeat' (first|exact xf|refine aw0 ?_|(refine ap2 ?_ ?_<;>try intro h)|refine aw1 ?_|(refine abx ?_;intro bb)|(refine abz ?_;intro bz)|(refine ahv ?_;intro v' hv')|(refine aac ?_;intro ac cc)|refine aw2 ?_|(refine ap4 ?_ ?_<;>try intro h)|apply True.intro)
 all_goals
  ((with_reducible apply fp_ret);exact res_1 rfl rfl)
  exact HR.out _ _ _ [] atks ⟨⟨_,rfl⟩,rfl⟩
theorem spot_any (r:Hp) (v:Value) (s:Tx) (hv:U8S r v s) (k:Int) (i:Nat) (h2:i<=62):Tri Tryz.prog r 98 [v,.int .i64 k,.int .i64 (i:Nat)] [] fun w H=>(∃ b,w = .bool b)/\H=[]:=by
 have hf1:=feed_any r v s hv ((i:Nat) - 1:Int) (by omega) (by omega)
 have hf2:=feed_any r v s hv (i:Nat) (by omega) (by omega)
 have hw1:=word_any r v s hv ((i:Nat) - 1:Int) (by omega) (by omega)
 have hw2:=word_any r v s hv (i:Nat) (by omega) (by omega)
 refine Tri.free2 fun R HR=>?_
 refine ae Tryz.func98 Tryz.ntmps98 ?_
 repeat' (first|(refine acl Tryz.func127 ?_;refine acr (hf1) ?_;rintro v' H' ⟨⟨p1,rfl⟩,rfl⟩;refine apl ?_)|(refine acl Tryz.func127 ?_;refine acr (hf2) ?_;rintro v' H' ⟨⟨p1,rfl⟩,rfl⟩;refine apl ?_)|(refine acl Tryz.func128 ?_;refine acr (hw1) ?_;rintro v' H' ⟨⟨p1,rfl⟩,rfl⟩;refine apl ?_)|(refine acl Tryz.func128 ?_;refine acr (hw2) ?_;rintro v' H' ⟨⟨p2,rfl⟩,rfl⟩;refine apl ?_)|exact xf|refine aw0 ?_|(refine ap2 ?_ ?_<;>try intro h)|refine aw1 ?_|(refine abx ?_;intro bb)|(refine abz ?_;intro bz)|(refine ahv ?_;intro v' hv')|(refine aac ?_;intro ac cc)|refine aw2 ?_|(refine ap4 ?_ ?_<;>try intro h)|apply True.intro)
 all_goals
  ((with_reducible apply fp_ret);exact res_1 rfl rfl)
  exact HR.out _ _ _ [] atks ⟨⟨_,rfl⟩,rfl⟩
theorem none_sp (r:Hp) (v:Value) (s:Tx) (hv:U8S r v s) (hs:s.length<=62) (_hv1:one? v=true) (k:Int) (s0 s1 s2 s3:Nat) (kv:Value) (mn mx:Int) (lz:Bool) (gr:Int) (_hk1:one? kv=true):Tri Tryz.prog r 51 [.agg [v].toArray,.agg [.int .i64 k,.int .u64 s0,.int .u64 s1,.int .u64 s2,.int .u64 s3,kv,.int .i64 mn,.int .i64 mx,.bool lz,.int .i64 gr].toArray] [] fun w H => ∃ a c,w = .slice a (noT s.length).length c/\H=[TbC a c (noT s.length)]:=by
 have he:=each_any r v s hv hs 88 [] (goesOf Tryz.func88 (by kernel_rfl) rfl) (fun _=>noJ) (fun _=>0) fun i hi=>(none1_any r i).addJ
 refine Tri.free2 fun R HR=>?_
 refine ae Tryz.func51 Tryz.ntmps51 ?_
 refine sw_put (A:=noJ) rfl ?_
 repeat' (first|((with_reducible apply kx_box (v:= .agg [v].toArray));rfl;(exact qcl);intro b2;(refine apk ?_))|((with_reducible apply kx_box);rfl;(exact qcl);intro b3;(refine apk ?_))|(refine acl Tryz.func87 ?_;refine acr (he) ?_;rintro v' H' ⟨a,c,rfl,rfl⟩;refine apl ?_)|exact xf|refine aw0 ?_|(refine ap2 ?_ ?_<;>try intro h)|refine aw1 ?_|(refine abx ?_;intro bb)|(refine abz ?_;intro bz)|(refine ahv ?_;intro v' hv')|(refine aac ?_;intro ac cc)|refine aw2 ?_|(refine ap4 ?_ ?_<;>try intro h)|apply True.intro)
 ((with_reducible apply fp_ret);exact res_1 rfl rfl)
 exact HR.out _ _ _ [TbC a c (noT s.length)] atks ⟨a,c,rfl,rfl⟩
theorem empty_sp (r:Hp) (v:Value) (s:Tx) (hv:U8S r v s) (hs:s.length<=62) (hv1:one? v=true) (k:Int) (s0 s1 s2 s3:Nat) (kv:Value) (mn mx:Int) (lz:Bool) (gr:Int) (_hk1:one? kv=true):Tri Tryz.prog r 50 [.agg [v].toArray,.agg [.int .i64 k,.int .u64 s0,.int .u64 s1,.int .u64 s2,.int .u64 s3,kv,.int .i64 mn,.int .i64 mx,.bool lz,.int .i64 gr].toArray] [] fun w H => ∃ a c,w = .slice a (stillT s.length).length c/\H=[TbC a c (stillT s.length)]:=by
 have he:=still_any r v s hv hs hv1
 refine Tri.free2 fun R HR=>?_
 refine ae Tryz.func50 Tryz.ntmps50 ?_
 repeat' (first|((with_reducible apply kx_box (v:= .agg [v].toArray));rfl;(exact qcl);intro b2;(refine apk ?_))|((with_reducible apply kx_box);rfl;(exact qcl);intro b3;(refine apk ?_))|(refine acl Tryz.func86 ?_;refine acr (he) ?_;rintro v' H' ⟨a,c,rfl,rfl⟩;refine apl ?_)|exact xf|refine aw0 ?_|(refine ap2 ?_ ?_<;>try intro h)|refine aw1 ?_|(refine abx ?_;intro bb)|(refine abz ?_;intro bz)|(refine ahv ?_;intro v' hv')|(refine aac ?_;intro ac cc)|refine aw2 ?_|(refine ap4 ?_ ?_<;>try intro h)|apply True.intro)
 ((with_reducible apply fp_ret);exact res_1 rfl rfl)
 exact HR.out _ _ _ [TbC a c (stillT s.length)] atks ⟨a,c,rfl,rfl⟩
theorem bytes1_any (r:Hp) (v:Value) (s:Tx) (hv:U8S r v s) (b2 b3:Nat) (k:Int) (s0 s1 s2 s3:Nat) (kv:Value) (mn mx:Int) (lz:Bool) (gr:Int) (hb2:r b2=some (.cells [v].toArray 72 (0,0))) (hb3:r b3=some (.cells [.int .i64 k,.int .u64 s0,.int .u64 s1,.int .u64 s2,.int .u64 s3,kv,.int .i64 mn,.int .i64 mx,.bool lz,.int .i64 gr].toArray 28 (0,0))) (h0:s0<2 ^ 64) (h1:s1<2 ^ 64) (h2:s2<2 ^ 64) (h3:s3<2 ^ 64) (i:Nat) (hi:i<=s.length) (hs:s.length<=62):Tri Tryz.prog r 89 [.int .i64 (i:Nat),.pointer (some ⟨b2,0,none⟩),.pointer (some ⟨b3,0,none⟩)] [] fun w H=>w = .agg (encE (if i<s.length/\hasS [s0,s1,s2,s3] (s.getD i 0).toNat=true then 2 ^ (i+1) else 0)).toArray/\H=[]:=by
 obtain ⟨c,hc⟩ : ∃ c,s.getD i 0=c:=⟨_,rfl⟩
 have hh:=has_any r s0 s1 s2 s3 c h0 h1 h2 h3
 have hp:=fun b bz=>eputO_any r b 0 (i+1) bz 3 (by omega) (by omega)
 have hz:orN 0 (2 ^ (i+1))=2 ^ (i+1):=Nat.zero_or _
 have hi1:((i:Nat):Int)+1=((i+1:Nat):Int):=by omega
 rw [hc]
 by_cases hlt:i<s.length
 · cases hb:hasS [s0,s1,s2,s3] c.toNat
   · rw [if_neg (fun e=>by cases e.2)]
     rw [hb] at hh
     refine Tri.free2 fun R HR=>?_
     refine ae Tryz.func89 Tryz.ntmps89 ?_
     repeat' (first|(rw [hc])|((with_reducible apply kx_alloc (E:=74));exact ty_zero;(exact qcl);intro b4;(refine apk ?_))|((((with_reducible apply sw_draw (id:=1) 15 [(0,true),(1,true),(2,true),(3,true),(4,true),(5,true),(6,true),(7,true),(8,true),(9,true),(10,true),(11,true),(12,true),(13,false),(14,true)] [] []);kernel_rfl;(exact atks);kernel_rfl;intro r' hl'));have hb2':=hl'.1 _ _ hb2;have hb3':=hl'.1 _ _ hb3;have hv':=hv.mono hl'.1)|((with_reducible apply pi_pur);rfl;(exact qwt);(with_reducible apply pu_ldP);rfl;(first|assumption|exact Lent.h1 hl'|exact Lent.h2 hl'|exact Lent.h3 hl');(simp only [cut,List.drop_succ_cons,List.drop_zero,List.take_succ_cons,List.take_zero];rfl);rfl;(refine apk ?_))|(refine acl Tryz.func90 ?_;refine acr (hh.up hl'.1) ?_;rintro v' H' ⟨rfl,rfl⟩;refine apl ?_)|(rw [hi1])|(rw [hz])|(first|((with_reducible apply kx_bs1);exact ty_el;exact ty_inf;rfl;rfl;rfl;intro bz;(refine apk ?_))|((with_reducible apply kx_bsN);exact ty_el;exact ty_inf;rfl;rfl;rfl;intro bz;(refine apk ?_)))|(refine acl Tryz.func91 ?_;refine acr (hp b4 bz) ?_;rintro v' H' rfl;all_goals refine apl ?_)|exact xf|refine aw0 ?_|(refine ap2 ?_ ?_<;>try intro h)|refine aw1 ?_|(refine abx ?_;intro bb)|(refine abz ?_;intro bz)|(refine ahv ?_;intro v' hv')|(refine aac ?_;intro ac cc)|refine aw2 ?_|(refine ap4 ?_ ?_<;>try intro h)|apply True.intro)
     ((with_reducible apply fp_ret);exact res_W rfl rfl atk ty_agg ty_size rfl)
     exact HR.out _ _ _ [] atks ⟨rfl,rfl⟩
   · rw [if_pos ⟨hlt,rfl⟩]
     rw [hb] at hh
     refine Tri.free2 fun R HR=>?_
     refine ae Tryz.func89 Tryz.ntmps89 ?_
     repeat' (first|(rw [hc])|((with_reducible apply kx_alloc (E:=74));exact ty_zero;(exact qcl);intro b4;(refine apk ?_))|((((with_reducible apply sw_draw (id:=1) 15 [(0,true),(1,true),(2,true),(3,true),(4,true),(5,true),(6,true),(7,true),(8,true),(9,true),(10,true),(11,true),(12,true),(13,false),(14,true)] [] []);kernel_rfl;(exact atks);kernel_rfl;intro r' hl'));have hb2':=hl'.1 _ _ hb2;have hb3':=hl'.1 _ _ hb3;have hv':=hv.mono hl'.1)|((with_reducible apply pi_pur);rfl;(exact qwt);(with_reducible apply pu_ldP);rfl;(first|assumption|exact Lent.h1 hl'|exact Lent.h2 hl'|exact Lent.h3 hl');(simp only [cut,List.drop_succ_cons,List.drop_zero,List.take_succ_cons,List.take_zero];rfl);rfl;(refine apk ?_))|(refine acl Tryz.func90 ?_;refine acr (hh.up hl'.1) ?_;rintro v' H' ⟨rfl,rfl⟩;refine apl ?_)|(rw [hi1])|(rw [hz])|(first|((with_reducible apply kx_bs1);exact ty_el;exact ty_inf;rfl;rfl;rfl;intro bz;(refine apk ?_))|((with_reducible apply kx_bsN);exact ty_el;exact ty_inf;rfl;rfl;rfl;intro bz;(refine apk ?_)))|(refine acl Tryz.func91 ?_;refine acr (hp b4 bz) ?_;rintro v' H' rfl;all_goals refine apl ?_)|exact xf|refine aw0 ?_|(refine ap2 ?_ ?_<;>try intro h)|refine aw1 ?_|(refine abx ?_;intro bb)|(refine abz ?_;intro bz)|(refine ahv ?_;intro v' hv')|(refine aac ?_;intro ac cc)|refine aw2 ?_|(refine ap4 ?_ ?_<;>try intro h)|apply True.intro)
     ((with_reducible apply fp_ret);exact res_W rfl rfl atk ty_agg ty_size rfl)
     exact HR.out _ _ _ [] atks ⟨rfl,rfl⟩
 · rw [if_neg (fun e=>hlt e.1)]
   refine Tri.free2 fun R HR=>?_
   refine ae Tryz.func89 Tryz.ntmps89 ?_
   repeat' (first|(rw [hc])|((with_reducible apply kx_alloc (E:=74));exact ty_zero;(exact qcl);intro b4;(refine apk ?_))|((((with_reducible apply sw_draw (id:=1) 15 [(0,true),(1,true),(2,true),(3,true),(4,true),(5,true),(6,true),(7,true),(8,true),(9,true),(10,true),(11,true),(12,true),(13,false),(14,true)] [] []);kernel_rfl;(exact atks);kernel_rfl;intro r' hl'));have hb2':=hl'.1 _ _ hb2;have hb3':=hl'.1 _ _ hb3;have hv':=hv.mono hl'.1)|((with_reducible apply pi_pur);rfl;(exact qwt);(with_reducible apply pu_ldP);rfl;(first|assumption|exact Lent.h1 hl'|exact Lent.h2 hl'|exact Lent.h3 hl');(simp only [cut,List.drop_succ_cons,List.drop_zero,List.take_succ_cons,List.take_zero];rfl);rfl;(refine apk ?_))|(refine acl Tryz.func90 ?_;refine acr (hh.up hl'.1) ?_;rintro v' H' ⟨rfl,rfl⟩;refine apl ?_)|(rw [hi1])|(rw [hz])|(first|((with_reducible apply kx_bs1);exact ty_el;exact ty_inf;rfl;rfl;rfl;intro bz;(refine apk ?_))|((with_reducible apply kx_bsN);exact ty_el;exact ty_inf;rfl;rfl;rfl;intro bz;(refine apk ?_)))|(refine acl Tryz.func91 ?_;refine acr (hp b4 bz) ?_;rintro v' H' rfl;all_goals refine apl ?_)|exact xf|refine aw0 ?_|(refine ap2 ?_ ?_<;>try intro h)|refine aw1 ?_|(refine abx ?_;intro bb)|(refine abz ?_;intro bz)|(refine ahv ?_;intro v' hv')|(refine aac ?_;intro ac cc)|refine aw2 ?_|(refine ap4 ?_ ?_<;>try intro h)|apply True.intro)
   ((with_reducible apply fp_ret);exact res_W rfl rfl atk ty_agg ty_size rfl)
   exact HR.out _ _ _ [] atks ⟨rfl,rfl⟩
end Go.Proofs.YteknekiclhnkiaaGreatDoor
