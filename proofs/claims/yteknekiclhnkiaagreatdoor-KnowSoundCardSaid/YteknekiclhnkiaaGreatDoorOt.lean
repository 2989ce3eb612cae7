/- work.set: its contract. -/
import Derived.Test.YteknekiclhnkiaaGreatDoorZo
set_option maxHeartbeats 8000000
set_option maxRecDepth 10000
namespace Go.Proofs.YteknekiclhnkiaaGreatDoor
open Go.RowKit Go.Maps Sx
namespace Sx
section
variable {P : Program} {r : Hp} {t : List Value} {d : Option Tmp} {ty : TypeId} {pos : String} {af : Array Edge} {gd : Option (Nat × Bool)}
theorem pu_ixArr {T E:TypeId} {x y:Operand} {k:IntKind} {i:Int} {m sz b off q:Nat} (hT:P.underlying T=some (.array m E)) (hE:sizeB P E=some sz) (hx:evO t x=some (.pointer (some ⟨b,off,none⟩))) (hy:evO t y=some (.int k i)) (hi:i=(q:Int)) (hq:q<m) :
 Pur P r t ⟨d,.indexAddr T x y,ty,pos,af,gd⟩ (.pointer (some ⟨b,off+q*sz,none⟩)) :=
 ⟨rfl,fun w _=>by
  subst hi
  have h1:(0:Int)<=(q:Int)/\(q:Int)<(m:Int):=by omega
  have h2:(⟨b,off,none⟩:Addr).add (q*sz)=⟨b,off+q*sz,none⟩:=by unfold Addr.add;split<;>simp_all
  simp [execOp,Instr.indexAt,Instr.sureAddr,asIntOf,ev_of hx,ev_of hy,Sem.run_bind,Result.andThen,run_underlying hT,run_sizeOf hE,h2,hq]⟩
end
end Sx
theorem bit_ok {s k:Nat} (hs:s<2 ^ 64) (_hk:k<64):bitI .and .u64 ((s:Int) / 2 ^ k) 1=if s.testBit k then 1 else 0:=by
 have e1:((s:Int) / 2 ^ k)=((s / 2 ^ k:Nat):Int):=by simp
 have h1:s / 2 ^ k<2 ^ 64:=Nat.lt_of_le_of_lt (Nat.div_le_self _ _) hs
 unfold bitI
 rw [e1]
 show IntKind.u64.wrap (((BitVec.ofInt 64 ((s / 2 ^ k:Nat):Int) &&& BitVec.ofInt 64 1).toNat:Nat):Int)=_
 have e2:(BitVec.ofInt 64 ((s / 2 ^ k:Nat):Int) &&& BitVec.ofInt 64 1).toNat=(s / 2 ^ k) % 2:=by
  rw [BitVec.toNat_and,BitVec.toNat_ofInt,BitVec.toNat_ofInt]
  have:(((s / 2 ^ k:Nat):Int) % ((2 ^ 64:Nat):Int)).toNat=s / 2 ^ k:=by
   rw [← Int.natCast_emod,Nat.mod_eq_of_lt h1,Int.toNat_natCast]
  rw [this]
  show (s / 2 ^ k) &&& 1=_
  exact Nat.and_one_is_mod _
 rw [e2,Nat.testBit_eq_decide_div_mod_eq]
 rcases Nat.mod_two_eq_zero_or_one (s / 2 ^ k) with h|h
 · rw [h];simp [IntKind.wrap,IntKind.signed,IntKind.bits]
 · rw [h];simp [IntKind.wrap,IntKind.signed,IntKind.bits]
def bytesTo (set:List Nat) (b:Nat):List Tx:=((List.range b).filter fun b=>(set.getD (b / 64) 0).testBit (b % 64)).map fun b=>[UInt8.ofNat b]
theorem bytesTo_all (set:List Nat):bytesTo set 256=bytesOf set:=rfl
theorem bytesTo_succ (set:List Nat) (b:Nat):bytesTo set (b+1)=bytesTo set b++if (set.getD (b / 64) 0).testBit (b % 64) then [[UInt8.ofNat b]] else []:=by
 unfold bytesTo
 rw [List.range_succ,List.filter_append,List.map_append]
 congr 1
 simp only [List.filter_cons,List.filter_nil]
 split<;>simp_all
theorem bytesTo_len (set:List Nat) (b:Nat):(bytesTo set b).length<=b:=by
 unfold bytesTo
 rw [List.length_map]
 exact Nat.le_trans (List.length_filter_le _ _) (by simp)
theorem set_any (r:Hp) (hT:TabR r) (n:NoV) (hn:NoR r n):Tri Tryz.prog r 26 [.agg (encN n).toArray] [] fun w H => ∃ u:InfV,u.key=setI n.key.set/\(encQ u.q).all one?=true/\w = .agg [.bool u.known,.slice u.ea u.ex.length u.ec,.slice u.pa u.pre.length u.pc,.slice u.sa u.suf.length u.sc,.int .i64 u.q.kind,u.q.gv,u.q.sv].toArray/\H=[OwnI u]:=by
 have hex : ∀ r' g (a:Option Addr) (c:Nat) (L:List Tx),sub r r'->sub g r'->TxC a c L g->L.length<=256->Tri Tryz.prog r' 31 [.slice a L.length c] [] fun w H => ∃ u:InfV,u.key=exactI L/\(encQ u.q).all one?=true/\w = .agg [.bool u.known,.slice u.ea u.ex.length u.ec,.slice u.pa u.pre.length u.pc,.slice u.sa u.suf.length u.sc,.int .i64 u.q.kind,u.q.gv,u.q.sv].toArray/\H=[OwnI u]:=fun r' g a c L s1 s2 h hl=>exact_any r' (hT.mono s1) _ L (txC_els h s2) (by omega)
 have hop:=open_any r hT
 obtain ⟨k,s0,s1,s2,s3,kv,l,mn,mx,lz,gr⟩:=n
 simp only [NoR] at hn
 obtain ⟨_,_,_,h0,h1,h2,h3,_⟩:=hn
 have hse:setI (NoV.key (.mk k s0 s1 s2 s3 kv l mn mx lz gr)).set=if 8<(bytesOf [s0,s1,s2,s3]).length then openI else exactI (bytesOf [s0,s1,s2,s3]):=by simp only [NoV.key,Nd.set];rfl
 rw [hse]
 clear hse
 refine Tri.free2 fun R HR=>?_
 show Tri _ _ _ [.agg [.int .i64 k,.int .u64 s0,.int .u64 s1,.int .u64 s2,.int .u64 s3,kv,.int .i64 mn,.int .i64 mx,.bool lz,.int .i64 gr].toArray] _ _
 refine ae Tryz.func26 Tryz.ntmps26 ?_
 repeat' (first|((with_reducible apply kx_box);rfl;(exact qcl);intro b1;(refine apk ?_))|((with_reducible apply kx_alloc (E:=40));exact ty_zero;(exact qcl);intro b2;(refine apk ?_))|exact xf|refine aw0 ?_|(refine ap2 ?_ ?_<;>try intro h)|refine aw1 ?_|(refine abx ?_;intro bb)|(refine abz ?_;intro bz)|(refine ahv ?_;intro v' hv')|(refine aac ?_;intro ac cc)|refine aw2 ?_|(refine ap4 ?_ ?_<;>try intro h)|apply True.intro)
 refine sw_put (A:=TxC none 0 []) (RowC.nil _ _) ?_
 have hb0:(bytesTo [s0,s1,s2,s3] 0).length=0:=rfl
 refine sw_loop (fun gm t H' => ∃ (b:Nat) (a:Option Addr) (c:Nat),gm=256+1 - b/\(b<=256)/\(∃ G,Takes [pt b1 (.cells [.int .i64 k,.int .u64 s0,.int .u64 s1,.int .u64 s2,.int .u64 s3,kv,.int .i64 mn,.int .i64 mx,.bool lz,.int .i64 gr].toArray 65 (0,0)),pt b2 (.cells [.bool false,.slice none 0 0,.slice none 0 0,.slice none 0 0,.int .i64 0,.slice none 0 0,.slice none 0 0].toArray 40 (0,0)),TxC a c (bytesTo [s0,s1,s2,s3] b)] H' G)/\Sls t 34 [(1,.pointer (some ⟨b1,0,none⟩)),(2,.pointer (some ⟨b2,0,none⟩)),(3,.slice a (bytesTo [s0,s1,s2,s3] b).length c),(5,.int .i64 b)]) _ ⟨0,none,0,rfl,Nat.zero_le _,⟨_,atks⟩,asls⟩ ?_
 rintro gm t H' ⟨b,a,c,rfl,hb,⟨G,hp⟩,hs'⟩
 revert t;refine sls_all ?_;iterate 30 intro uu'
 refine sw_takeG hp ?_;clear hp
 by_cases hlt:b<256
 · have hsc:=bytesTo_succ [s0,s1,s2,s3] b
   have hbl:=bytesTo_len [s0,s1,s2,s3] b
   obtain ⟨Y,hY⟩ : ∃ Y,bytesTo [s0,s1,s2,s3] b=Y:=⟨_,rfl⟩
   rw [hY] at hsc hbl
   rw [hY]
   have hq:b / 64=0\/b / 64=1\/b / 64=2\/b / 64=3:=by omega
   rcases hq with hq|hq|hq|hq
   · rw [hq] at hsc
     simp only [List.getD_cons_zero] at hsc
     have hbo:=bit_ok h0 (k:=b % 64) (Nat.mod_lt _ (by omega))
     cases htb:s0.testBit (b % 64)
     · rw [htb] at hbo hsc
       simp only [Bool.false_eq_true,if_false,List.append_nil] at hbo hsc
       rw [show (b % 64)=(((b:Nat):Int) % 64).toNat by omega] at hbo
       have hln2:(bytesTo [s0,s1,s2,s3] (b+1)).length=Y.length:=by rw [hsc]
       repeat' (first|((with_reducible apply swo_pur);(with_reducible apply pu_ixArr (q:=0));exact Tryz.underlying25;exact ty_size;rfl;rfl;(first|omega|(simp only [Int.tdiv_eq_ediv_of_nonneg];omega));(omega);(refine apk ?_))|(first|((with_reducible apply kx_bs1);exact ty_el;exact ty_inf;rfl;rfl;rfl;intro bz;(refine apk ?_))|((with_reducible apply kx_bsN);exact ty_el;exact ty_inf;rfl;rfl;rfl;intro bz;(refine apk ?_)))|(first|((with_reducible apply kx_append1);exact ty_el;exact ty_inf;rfl;rfl;rfl;(exact atk);(exact atk);rfl;omega;intro a' c';(refine apk ?_))|((with_reducible apply kx_appendN);exact ty_el;exact ty_inf;rfl;rfl;rfl;rfl;(exact atk);(exact atk);rfl;rfl;omega;intro a' c';(refine apk ?_)))|exact xf|refine aw0 ?_|(refine ap2 ?_ ?_<;>try intro h)|refine aw1 ?_|(refine abx ?_;intro bb)|(refine abz ?_;intro bz)|(refine ahv ?_;intro v' hv')|(refine aac ?_;intro ac cc)|refine aw2 ?_|(refine ap4 ?_ ?_<;>try intro h)|apply True.intro)
       exact ⟨_,by omega,b+1,a,c,rfl,by omega,⟨_,by rw [hsc];exact atks⟩,asls⟩
     · rw [htb] at hbo hsc
       simp only [if_true] at hbo hsc
       rw [show (b % 64)=(((b:Nat):Int) % 64).toNat by omega] at hbo
       have hln2:(bytesTo [s0,s1,s2,s3] (b+1)).length=Y.length+1:=by rw [hsc,List.length_append];rfl
       repeat' (first|((with_reducible apply swo_pur);(with_reducible apply pu_ixArr (q:=0));exact Tryz.underlying25;exact ty_size;rfl;rfl;(first|omega|(simp only [Int.tdiv_eq_ediv_of_nonneg];omega));(omega);(refine apk ?_))|(first|((with_reducible apply kx_bs1);exact ty_el;exact ty_inf;rfl;rfl;rfl;intro bz;(refine apk ?_))|((with_reducible apply kx_bsN);exact ty_el;exact ty_inf;rfl;rfl;rfl;intro bz;(refine apk ?_)))|(first|((with_reducible apply kx_append1);exact ty_el;exact ty_inf;rfl;rfl;rfl;(exact atk);(exact atk);rfl;omega;intro a' c';(refine apk ?_))|((with_reducible apply kx_appendN);exact ty_el;exact ty_inf;rfl;rfl;rfl;rfl;(exact atk);(exact atk);rfl;rfl;omega;intro a' c';(refine apk ?_)))|exact xf|refine aw0 ?_|(refine ap2 ?_ ?_<;>try intro h)|refine aw1 ?_|(refine abx ?_;intro bb)|(refine abz ?_;intro bz)|(refine ahv ?_;intro v' hv')|(refine aac ?_;intro ac cc)|refine aw2 ?_|(refine ap4 ?_ ?_<;>try intro h)|apply True.intro)
       exact ⟨_,by omega,b+1,a',c',rfl,by omega,⟨_,by rw [hsc,txC_snoc];exact atks⟩,asls⟩
   · rw [hq] at hsc
     simp only [List.getD_cons_zero,List.getD_cons_succ] at hsc
     have hbo:=bit_ok h1 (k:=b % 64) (Nat.mod_lt _ (by omega))
     cases htb:s1.testBit (b % 64)
     · rw [htb] at hbo hsc
       simp only [Bool.false_eq_true,if_false,List.append_nil] at hbo hsc
       rw [show (b % 64)=(((b:Nat):Int) % 64).toNat by omega] at hbo
       have hln2:(bytesTo [s0,s1,s2,s3] (b+1)).length=Y.length:=by rw [hsc]
       repeat' (first|((with_reducible apply swo_pur);(with_reducible apply pu_ixArr (q:=1));exact Tryz.underlying25;exact ty_size;rfl;rfl;(first|omega|(simp only [Int.tdiv_eq_ediv_of_nonneg];omega));(omega);(refine apk ?_))|(first|((with_reducible apply kx_bs1);exact ty_el;exact ty_inf;rfl;rfl;rfl;intro bz;(refine apk ?_))|((with_reducible apply kx_bsN);exact ty_el;exact ty_inf;rfl;rfl;rfl;intro bz;(refine apk ?_)))|(first|((with_reducible apply kx_append1);exact ty_el;exact ty_inf;rfl;rfl;rfl;(exact atk);(exact atk);rfl;omega;intro a' c';(refine apk ?_))|((with_reducible apply kx_appendN);exact ty_el;exact ty_inf;rfl;rfl;rfl;rfl;(exact atk);(exact atk);rfl;rfl;omega;intro a' c';(refine apk ?_)))|exact xf|refine aw0 ?_|(refine ap2 ?_ ?_<;>try intro h)|refine aw1 ?_|(refine abx ?_;intro bb)|(refine abz ?_;intro bz)|(refine ahv ?_;intro v' hv')|(refine aac ?_;intro ac cc)|refine aw2 ?_|(refine ap4 ?_ ?_<;>try intro h)|apply True.intro)
       exact ⟨_,by omega,b+1,a,c,rfl,by omega,⟨_,by rw [hsc];exact atks⟩,asls⟩
     · rw [htb] at hbo hsc
       simp only [if_true] at hbo hsc
       rw [show (b % 64)=(((b:Nat):Int) % 64).toNat by omega] at hbo
       have hln2:(bytesTo [s0,s1,s2,s3] (b+1)).length=Y.length+1:=by rw [hsc,List.length_append];rfl
       repeat' (first|((with_reducible apply swo_pur);(with_reducible apply pu_ixArr (q:=1));exact Tryz.underlying25;exact ty_size;rfl;rfl;(first|omega|(simp only [Int.tdiv_eq_ediv_of_nonneg];omega));(omega);(refine apk ?_))|(first|((with_reducible apply kx_bs1);exact ty_el;exact ty_inf;rfl;rfl;rfl;intro bz;(refine apk ?_))|((with_reducible apply kx_bsN);exact ty_el;exact ty_inf;rfl;rfl;rfl;intro bz;(refine apk ?_)))|(first|((with_reducible apply kx_append1);exact ty_el;exact ty_inf;rfl;rfl;rfl;(exact atk);(exact atk);rfl;omega;intro a' c';(refine apk ?_))|((with_reducible apply kx_appendN);exact ty_el;exact ty_inf;rfl;rfl;rfl;rfl;(exact atk);(exact atk);rfl;rfl;omega;intro a' c';(refine apk ?_)))|exact xf|refine aw0 ?_|(refine ap2 ?_ ?_<;>try intro h)|refine aw1 ?_|(refine abx ?_;intro bb)|(refine abz ?_;intro bz)|(refine ahv ?_;intro v' hv')|(refine aac ?_;intro ac cc)|refine aw2 ?_|(refine ap4 ?_ ?_<;>try intro h)|apply True.intro)
       exact ⟨_,by omega,b+1,a',c',rfl,by omega,⟨_,by rw [hsc,txC_snoc];exact atks⟩,asls⟩
   · rw [hq] at hsc
     simp only [List.getD_cons_zero,List.getD_cons_succ] at hsc
     have hbo:=bit_ok h2 (k:=b % 64) (Nat.mod_lt _ (by omega))
     cases htb:s2.testBit (b % 64)
     · rw [htb] at hbo hsc
       simp only [Bool.false_eq_true,if_false,List.append_nil] at hbo hsc
       rw [show (b % 64)=(((b:Nat):Int) % 64).toNat by omega] at hbo
       have hln2:(bytesTo [s0,s1,s2,s3] (b+1)).length=Y.length:=by rw [hsc]
       repeat' (first|((with_reducible apply swo_pur);(with_reducible apply pu_ixArr (q:=2));exact Tryz.underlying25;exact ty_size;rfl;rfl;(first|omega|(simp only [Int.tdiv_eq_ediv_of_nonneg];omega));(omega);(refine apk ?_))|(first|((with_reducible apply kx_bs1);exact ty_el;exact ty_inf;rfl;rfl;rfl;intro bz;(refine apk ?_))|((with_reducible apply kx_bsN);exact ty_el;exact ty_inf;rfl;rfl;rfl;intro bz;(refine apk ?_)))|(first|((with_reducible apply kx_append1);exact ty_el;exact ty_inf;rfl;rfl;rfl;(exact atk);(exact atk);rfl;omega;intro a' c';(refine apk ?_))|((with_reducible apply kx_appendN);exact ty_el;exact ty_inf;rfl;rfl;rfl;rfl;(exact atk);(exact atk);rfl;rfl;omega;intro a' c';(refine apk ?_)))|exact xf|refine aw0 ?_|(refine ap2 ?_ ?_<;>try intro h)|refine aw1 ?_|(refine abx ?_;intro bb)|(refine abz ?_;intro bz)|(refine ahv ?_;intro v' hv')|(refine aac ?_;intro ac cc)|refine aw2 ?_|(refine ap4 ?_ ?_<;>try intro h)|apply True.intro)
       exact ⟨_,by omega,b+1,a,c,rfl,by omega,⟨_,by rw [hsc];exact atks⟩,asls⟩
     · rw [htb] at hbo hsc
       simp only [if_true] at hbo hsc
       rw [show (b % 64)=(((b:Nat):Int) % 64).toNat by omega] at hbo
       have hln2:(bytesTo [s0,s1,s2,s3] (b+1)).length=Y.length+1:=by rw [hsc,List.length_append];rfl
       repeat' (first|((with_reducible apply swo_pur);(with_reducible apply pu_ixArr (q:=2));exact Tryz.underlying25;exact ty_size;rfl;rfl;(first|omega|(simp only [Int.tdiv_eq_ediv_of_nonneg];omega));(omega);(refine apk ?_))|(first|((with_reducible apply kx_bs1);exact ty_el;exact ty_inf;rfl;rfl;rfl;intro bz;(refine apk ?_))|((with_reducible apply kx_bsN);exact ty_el;exact ty_inf;rfl;rfl;rfl;intro bz;(refine apk ?_)))|(first|((with_reducible apply kx_append1);exact ty_el;exact ty_inf;rfl;rfl;rfl;(exact atk);(exact atk);rfl;omega;intro a' c';(refine apk ?_))|((with_reducible apply kx_appendN);exact ty_el;exact ty_inf;rfl;rfl;rfl;rfl;(exact atk);(exact atk);rfl;rfl;omega;intro a' c';(refine apk ?_)))|exact xf|refine aw0 ?_|(refine ap2 ?_ ?_<;>try intro h)|refine aw1 ?_|(refine abx ?_;intro bb)|(refine abz ?_;intro bz)|(refine ahv ?_;intro v' hv')|(refine aac ?_;intro ac cc)|refine aw2 ?_|(refine ap4 ?_ ?_<;>try intro h)|apply True.intro)
       exact ⟨_,by omega,b+1,a',c',rfl,by omega,⟨_,by rw [hsc,txC_snoc];exact atks⟩,asls⟩
   · rw [hq] at hsc
     simp only [List.getD_cons_zero,List.getD_cons_succ] at hsc
     have hbo:=bit_ok h3 (k:=b % 64) (Nat.mod_lt _ (by omega))
     cases htb:s3.testBit (b % 64)
     · rw [htb] at hbo hsc
       simp only [Bool.false_eq_true,if_false,List.append_nil] at hbo hsc
       rw [show (b % 64)=(((b:Nat):Int) % 64).toNat by omega] at hbo
       have hln2:(bytesTo [s0,s1,s2,s3] (b+1)).length=Y.length:=by rw [hsc]
       repeat' (first|((with_reducible apply swo_pur);(with_reducible apply pu_ixArr (q:=3));exact Tryz.underlying25;exact ty_size;rfl;rfl;(first|omega|(simp only [Int.tdiv_eq_ediv_of_nonneg];omega));(omega);(refine apk ?_))|(first|((with_reducible apply kx_bs1);exact ty_el;exact ty_inf;rfl;rfl;rfl;intro bz;(refine apk ?_))|((with_reducible apply kx_bsN);exact ty_el;exact ty_inf;rfl;rfl;rfl;intro bz;(refine apk ?_)))|(first|((with_reducible apply kx_append1);exact ty_el;exact ty_inf;rfl;rfl;rfl;(exact atk);(exact atk);rfl;omega;intro a' c';(refine apk ?_))|((with_reducible apply kx_appendN);exact ty_el;exact ty_inf;rfl;rfl;rfl;rfl;(exact atk);(exact atk);rfl;rfl;omega;intro a' c';(refine apk ?_)))|exact xf|refine aw0 ?_|(refine ap2 ?_ ?_<;>try intro h)|refine aw1 ?_|(refine abx ?_;intro bb)|(refine abz ?_;intro bz)|(refine ahv ?_;intro v' hv')|(refine aac ?_;intro ac cc)|refine aw2 ?_|(refine ap4 ?_ ?_<;>try intro h)|apply True.intro)
       exact ⟨_,by omega,b+1,a,c,rfl,by omega,⟨_,by rw [hsc];exact atks⟩,asls⟩
     · rw [htb] at hbo hsc
       simp only [if_true] at hbo hsc
       rw [show (b % 64)=(((b:Nat):Int) % 64).toNat by omega] at hbo
       have hln2:(bytesTo [s0,s1,s2,s3] (b+1)).length=Y.length+1:=by rw [hsc,List.length_append];rfl
       repeat' (first|((with_reducible apply swo_pur);(with_reducible apply pu_ixArr (q:=3));exact Tryz.underlying25;exact ty_size;rfl;rfl;(first|omega|(simp only [Int.tdiv_eq_ediv_of_nonneg];omega));(omega);(refine apk ?_))|(first|((with_reducible apply kx_bs1);exact ty_el;exact ty_inf;rfl;rfl;rfl;intro bz;(refine apk ?_))|((with_reducible apply kx_bsN);exact ty_el;exact ty_inf;rfl;rfl;rfl;intro bz;(refine apk ?_)))|(first|((with_reducible apply kx_append1);exact ty_el;exact ty_inf;rfl;rfl;rfl;(exact atk);(exact atk);rfl;omega;intro a' c';(refine apk ?_))|((with_reducible apply kx_appendN);exact ty_el;exact ty_inf;rfl;rfl;rfl;rfl;(exact atk);(exact atk);rfl;rfl;omega;intro a' c';(refine apk ?_)))|exact xf|refine aw0 ?_|(refine ap2 ?_ ?_<;>try intro h)|refine aw1 ?_|(refine abx ?_;intro bb)|(refine abz ?_;intro bz)|(refine ahv ?_;intro v' hv')|(refine aac ?_;intro ac cc)|refine aw2 ?_|(refine ap4 ?_ ?_<;>try intro h)|apply True.intro)
       exact ⟨_,by omega,b+1,a',c',rfl,by omega,⟨_,by rw [hsc,txC_snoc];exact atks⟩,asls⟩
 · obtain rfl:b=256:=by omega
   have hbl:=bytesTo_len [s0,s1,s2,s3] 256
   rw [bytesTo_all] at hbl ⊢
   obtain ⟨L,hL⟩ : ∃ L,bytesOf [s0,s1,s2,s3]=L:=⟨_,rfl⟩
   rw [hL] at hbl HR ⊢
   have hexF:=fun (a:Option Addr) (c:Nat)=>Tri.frz (A:=TxC a c L) fun r' g s1 s2 h=>hex r' g a c L s1 s2 h (by omega)
   by_cases h8:8<L.length
   · rw [if_pos h8] at HR
     repeat' (first|(refine acl Tryz.func42 ?_;refine acr (hop) ?_;rintro v' H' ⟨u,hu1,hu2,rfl,rfl⟩;refine apl ?_)|((with_reducible apply kx_storeN);exact ty_size;rfl;rfl;rfl;(exact qsw);exact encI_one hu2;(exact qst);(refine apk ?_))|exact xf|refine aw0 ?_|(refine ap2 ?_ ?_<;>try intro h)|refine aw1 ?_|(refine abx ?_;intro bb)|(refine abz ?_;intro bz)|(refine ahv ?_;intro v' hv')|(refine aac ?_;intro ac cc)|refine aw2 ?_|(refine ap4 ?_ ?_<;>try intro h)|apply True.intro)
     ((with_reducible apply fp_ret);exact res_W rfl rfl atk ty_agg ty_size rfl)
     exact HR.out _ _ _ [OwnI u] atks ⟨u,hu1,hu2,rfl,rfl⟩
   · rw [if_neg h8] at HR
     repeat' (first|(refine acl Tryz.func31 ?_;refine acr (hexF a c) ?_;rintro v' H' ⟨u,hu1,hu2,rfl,rfl⟩;refine apl ?_)|((with_reducible apply kx_storeN);exact ty_size;rfl;rfl;rfl;(exact qsw);exact encI_one hu2;(exact qst);(refine apk ?_))|exact xf|refine aw0 ?_|(refine ap2 ?_ ?_<;>try intro h)|refine aw1 ?_|(refine abx ?_;intro bb)|(refine abz ?_;intro bz)|(refine ahv ?_;intro v' hv')|(refine aac ?_;intro ac cc)|refine aw2 ?_|(refine ap4 ?_ ?_<;>try intro h)|apply True.intro)
     ((with_reducible apply fp_ret);exact res_W rfl rfl atk ty_agg ty_size rfl)
     exact HR.out _ _ _ [OwnI u] atks ⟨u,hu1,hu2,rfl,rfl⟩
end Go.Proofs.YteknekiclhnkiaaGreatDoor
