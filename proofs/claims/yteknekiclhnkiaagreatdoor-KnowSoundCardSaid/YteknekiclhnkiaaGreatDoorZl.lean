/- tree.Right: its contract. -/
import Derived.Test.YteknekiclhnkiaaGreatDoorZh
import Derived.Test.YteknekiclhnkiaaGreatDoorZf
set_option maxHeartbeats 16000000
set_option maxRecDepth 10000
namespace Go.Proofs.YteknekiclhnkiaaGreatDoor
open Go.RowKit Sx
theorem tnode4_any (r:Hp) (s0 s1 s2 s3:Nat) (kv:Value) (l:List NoV) (mn mx:Int) (lz:Bool) (gr:Int) (hl:Els r 10 encN kv l) (hk1:one? kv=true):Tri Tryz.prog r 24 [.agg [.int .i64 4,.int .u64 s0,.int .u64 s1,.int .u64 s2,.int .u64 s3,kv,.int .i64 mn,.int .i64 mx,.bool lz,.int .i64 gr].toArray] [] fun w H=>(∃ b,w = .bool b/\(b=true->NodeC 4 l.length mn mx))/\H=[]:=by
 have hlm:=maxI hl.2.2.1
 have hB0:([.int .i64 4,.int .u64 0,.int .u64 0,.int .u64 0,.int .u64 0,kv,.int .i64 0,.int .i64 0,.bool false,.int .i64 0]:List Value).all one?=true:=by
  simp only [List.all_cons,List.all_nil,hk1,Bool.and_true];rfl
 unfold NodeC
 obtain ⟨A,hA⟩ : ∃ A,max mn 0=A:=⟨_,rfl⟩
 obtain ⟨u,hu⟩ : ∃ u,min A 100=u:=⟨_,rfl⟩
 obtain ⟨B,hB⟩ : ∃ B,min mx 100=B:=⟨_,rfl⟩
 obtain ⟨w,hw⟩ : ∃ w,max B u=w:=⟨_,rfl⟩
 obtain ⟨A2,hA2⟩ : ∃ A,max gr 1=A:=⟨_,rfl⟩
 obtain ⟨u2,hu2⟩ : ∃ u,min A2 20=u:=⟨_,rfl⟩
 obtain ⟨n2,hn2⟩ : ∃ A,max (l.length:Int) 2=A:=⟨_,rfl⟩
 have hfin1:mn=u->mx=w->0<=mn/\mn<=100/\mx<=100/\(mx = -1\/mn<=mx):=by omega
 have hfin2:mn=u->mx = -1->0<=mn/\mn<=100/\mx<=100/\(mx = -1\/mn<=mx):=by omega
 have HA:=hid hA
 have HU:=hid hu
 have HB:=hid hB
 have HW:=hid hw
 have HA2:=hid hA2
 have HU2:=hid hu2
 have HN2:=hid hn2
 have HF1:=hid hfin1
 have HF2:=hid hfin2
 clear hA hu hB hw hA2 hu2 hn2 hfin1 hfin2
 refine Tri.free2 fun R HR=>?_
 refine ae Tryz.func24 Tryz.ntmps24 ?_
 repeat' (first|(rw [HA.out])|(rw [HU.out])|(rw [HB.out])|(rw [HW.out])|(rw [HA2.out])|(rw [HU2.out])|(rw [HN2.out])|((with_reducible apply kx_box);rfl;(exact qcl);intro b1;(refine apk ?_))|((with_reducible apply kx_alloc (E:=28));exact ty_zero;(exact qcl);intro b3;(refine apk ?_))|((with_reducible apply kx_storeN);exact ty_size;rfl;rfl;rfl;(exact qsw);exact hB0;(exact qst);(refine apk ?_))|((with_reducible apply sw_draw (id:=12) 14 [(0,true),(1,true),(2,true),(3,true),(4,true),(5,true),(6,true),(7,true),(8,true),(9,true),(10,true),(11,false),(12,true),(13,false)] [(14,false),(15,false)] [(b1,.cells ([.int .i64 4,.int .u64 s0,.int .u64 s1,.int .u64 s2,.int .u64 s3,kv,.int .i64 mn,.int .i64 mx,.bool lz,.int .i64 gr]:List Value).toArray 28 (0,0))]);kernel_rfl;(exact atks);kernel_rfl;intro r' hl')|((with_reducible apply sw_draw (id:=16) 5 [(0,true),(1,true),(2,true),(3,true),(4,true)] [(5,false),(6,false)] [(b1,.cells ([.int .i64 4,.int .u64 s0,.int .u64 s1,.int .u64 s2,.int .u64 s3,kv,.int .i64 mn,.int .i64 mx,.bool lz,.int .i64 gr]:List Value).toArray 28 (0,0))]);kernel_rfl;(exact atks);kernel_rfl;intro r' hl')|((with_reducible apply pi_pur);rfl;(exact qwt);(with_reducible apply pu_ldP);rfl;(first|assumption|exact Lent.h1 hl'|exact Lent.h2 hl'|exact Lent.h3 hl');(simp only [cut,List.drop_succ_cons,List.drop_zero,List.take_succ_cons,List.take_zero];rfl);rfl;(refine apk ?_))|((with_reducible apply swo_pur);(with_reducible apply (pu_eqA (E:=23)));exact Tryz.underlying25;kernel_rfl;kernel_rfl;kernel_rfl;kernel_rfl;rfl;rfl;(refine apk ?_))|((with_reducible apply kx_ldP);rfl;(exact atk);(simp only [cut,List.drop_succ_cons,List.drop_zero,List.take_succ_cons,List.take_zero];rfl);rfl;(refine apk ?_))|exact xf|refine aw0 ?_|(refine ap2 ?_ ?_<;>try intro h)|refine aw1 ?_|(refine abx ?_;intro bb)|(refine abz ?_;intro bz)|(refine ahv ?_;intro v' hv')|(refine aac ?_;intro ac cc)|refine aw2 ?_|(refine ap4 ?_ ?_<;>try intro h)|apply True.intro)
 all_goals
  repeat' (first|((with_reducible apply sw_draw (id:=18) 18 [(0,true),(1,true),(2,true),(3,true),(4,true),(5,true),(6,true),(7,true),(8,true),(9,true),(10,true),(11,true),(12,true),(13,true),(14,true),(15,true),(16,true),(17,true)] [(18,false)] [(b1,.cells ([.int .i64 4,.int .u64 s0,.int .u64 s1,.int .u64 s2,.int .u64 s3,kv,.int .i64 mn,.int .i64 mx,.bool lz,.int .i64 gr]:List Value).toArray 28 (0,0))]);kernel_rfl;(exact atks);kernel_rfl;intro r' hl')|((with_reducible apply pi_pur);rfl;(exact qwt);(with_reducible apply pu_ldP);rfl;(first|assumption|exact Lent.h1 hl'|exact Lent.h2 hl'|exact Lent.h3 hl');(simp only [cut,List.drop_succ_cons,List.drop_zero,List.take_succ_cons,List.take_zero];rfl);rfl;(refine apk ?_))|((with_reducible apply pi_pur);rfl;(exact qwt);(with_reducible apply (pu_bldA (T:=25) (z:=[.int .u64 0,.int .u64 0,.int .u64 0,.int .u64 0])));exact Tryz.underlying25;exact ty_size;(refine apk ?_))|((with_reducible apply pi_pur);rfl;(exact qwt);(with_reducible apply (pu_neA (E:=23)));exact Tryz.underlying25;kernel_rfl;kernel_rfl;kernel_rfl;kernel_rfl;rfl;rfl;(refine apk ?_))|exact xf|refine aw0 ?_|(refine ap2 ?_ ?_<;>try intro h)|refine aw1 ?_|(refine abx ?_;intro bb)|(refine abz ?_;intro bz)|(refine ahv ?_;intro v' hv')|(refine aac ?_;intro ac cc)|refine aw2 ?_|(refine ap4 ?_ ?_<;>try intro h)|apply True.intro)
 all_goals
  ((with_reducible apply fp_ret);exact res_1 rfl rfl)
  exact HR.out _ _ _ [] atks ⟨⟨_,rfl,fun hb=>by
   first
    | contradiction
    | (refine ⟨by omega,fun _=>by omega,fun hk=>?_⟩
       first
        | (exfalso;omega)
        | exact HF1.out (by assumption) (by assumption)
        | exact HF2.out (by assumption) (by assumption))⟩,rfl⟩
theorem tnode5_any (r:Hp) (s0 s1 s2 s3:Nat) (kv:Value) (l:List NoV) (mn mx:Int) (lz:Bool) (gr:Int) (hl:Els r 10 encN kv l) (hk1:one? kv=true):Tri Tryz.prog r 24 [.agg [.int .i64 5,.int .u64 s0,.int .u64 s1,.int .u64 s2,.int .u64 s3,kv,.int .i64 mn,.int .i64 mx,.bool lz,.int .i64 gr].toArray] [] fun w H=>(∃ b,w = .bool b/\(b=true->NodeC 5 l.length mn mx))/\H=[]:=by
 have hlm:=maxI hl.2.2.1
 have hB0:([.int .i64 5,.int .u64 0,.int .u64 0,.int .u64 0,.int .u64 0,kv,.int .i64 0,.int .i64 0,.bool false,.int .i64 0]:List Value).all one?=true:=by
  simp only [List.all_cons,List.all_nil,hk1,Bool.and_true];rfl
 unfold NodeC
 obtain ⟨A,hA⟩ : ∃ A,max mn 0=A:=⟨_,rfl⟩
 obtain ⟨u,hu⟩ : ∃ u,min A 100=u:=⟨_,rfl⟩
 obtain ⟨B,hB⟩ : ∃ B,min mx 100=B:=⟨_,rfl⟩
 obtain ⟨w,hw⟩ : ∃ w,max B u=w:=⟨_,rfl⟩
 obtain ⟨A2,hA2⟩ : ∃ A,max gr 1=A:=⟨_,rfl⟩
 obtain ⟨u2,hu2⟩ : ∃ u,min A2 20=u:=⟨_,rfl⟩
 obtain ⟨n2,hn2⟩ : ∃ A,max (l.length:Int) 2=A:=⟨_,rfl⟩
 have hfin1:mn=u->mx=w->0<=mn/\mn<=100/\mx<=100/\(mx = -1\/mn<=mx):=by omega
 have hfin2:mn=u->mx = -1->0<=mn/\mn<=100/\mx<=100/\(mx = -1\/mn<=mx):=by omega
 have HA:=hid hA
 have HU:=hid hu
 have HB:=hid hB
 have HW:=hid hw
 have HA2:=hid hA2
 have HU2:=hid hu2
 have HN2:=hid hn2
 have HF1:=hid hfin1
 have HF2:=hid hfin2
 clear hA hu hB hw hA2 hu2 hn2 hfin1 hfin2
 refine Tri.free2 fun R HR=>?_
 refine ae Tryz.func24 Tryz.ntmps24 ?_
 repeat' (first|(rw [HA.out])|(rw [HU.out])|(rw [HB.out])|(rw [HW.out])|(rw [HA2.out])|(rw [HU2.out])|(rw [HN2.out])|((with_reducible apply kx_box);rfl;(exact qcl);intro b1;(refine apk ?_))|((with_reducible apply kx_alloc (E:=28));exact ty_zero;(exact qcl);intro b3;(refine apk ?_))|((with_reducible apply kx_storeN);exact ty_size;rfl;rfl;rfl;(exact qsw);exact hB0;(exact qst);(refine apk ?_))|((with_reducible apply sw_draw (id:=12) 14 [(0,true),(1,true),(2,true),(3,true),(4,true),(5,true),(6,true),(7,true),(8,true),(9,true),(10,true),(11,false),(12,true),(13,false)] [(14,false),(15,false)] [(b1,.cells ([.int .i64 5,.int .u64 s0,.int .u64 s1,.int .u64 s2,.int .u64 s3,kv,.int .i64 mn,.int .i64 mx,.bool lz,.int .i64 gr]:List Value).toArray 28 (0,0))]);kernel_rfl;(exact atks);kernel_rfl;intro r' hl')|((with_reducible apply sw_draw (id:=16) 5 [(0,true),(1,true),(2,true),(3,true),(4,true)] [(5,false),(6,false)] [(b1,.cells ([.int .i64 5,.int .u64 s0,.int .u64 s1,.int .u64 s2,.int .u64 s3,kv,.int .i64 mn,.int .i64 mx,.bool lz,.int .i64 gr]:List Value).toArray 28 (0,0))]);kernel_rfl;(exact atks);kernel_rfl;intro r' hl')|((with_reducible apply pi_pur);rfl;(exact qwt);(with_reducible apply pu_ldP);rfl;(first|assumption|exact Lent.h1 hl'|exact Lent.h2 hl'|exact Lent.h3 hl');(simp only [cut,List.drop_succ_cons,List.drop_zero,List.take_succ_cons,List.take_zero];rfl);rfl;(refine apk ?_))|((with_reducible apply swo_pur);(with_reducible apply (pu_eqA (E:=23)));exact Tryz.underlying25;kernel_rfl;kernel_rfl;kernel_rfl;kernel_rfl;rfl;rfl;(refine apk ?_))|((with_reducible apply kx_ldP);rfl;(exact atk);(simp only [cut,List.drop_succ_cons,List.drop_zero,List.take_succ_cons,List.take_zero];rfl);rfl;(refine apk ?_))|exact xf|refine aw0 ?_|(refine ap2 ?_ ?_<;>try intro h)|refine aw1 ?_|(refine abx ?_;intro bb)|(refine abz ?_;intro bz)|(refine ahv ?_;intro v' hv')|(refine aac ?_;intro ac cc)|refine aw2 ?_|(refine ap4 ?_ ?_<;>try intro h)|apply True.intro)
 all_goals
  repeat' (first|((with_reducible apply sw_draw (id:=18) 18 [(0,true),(1,true),(2,true),(3,true),(4,true),(5,true),(6,true),(7,true),(8,true),(9,true),(10,true),(11,true),(12,true),(13,true),(14,true),(15,true),(16,true),(17,true)] [(18,false)] [(b1,.cells ([.int .i64 5,.int .u64 s0,.int .u64 s1,.int .u64 s2,.int .u64 s3,kv,.int .i64 mn,.int .i64 mx,.bool lz,.int .i64 gr]:List Value).toArray 28 (0,0))]);kernel_rfl;(exact atks);kernel_rfl;intro r' hl')|((with_reducible apply pi_pur);rfl;(exact qwt);(with_reducible apply pu_ldP);rfl;(first|assumption|exact Lent.h1 hl'|exact Lent.h2 hl'|exact Lent.h3 hl');(simp only [cut,List.drop_succ_cons,List.drop_zero,List.take_succ_cons,List.take_zero];rfl);rfl;(refine apk ?_))|((with_reducible apply pi_pur);rfl;(exact qwt);(with_reducible apply (pu_bldA (T:=25) (z:=[.int .u64 0,.int .u64 0,.int .u64 0,.int .u64 0])));exact Tryz.underlying25;exact ty_size;(refine apk ?_))|((with_reducible apply pi_pur);rfl;(exact qwt);(with_reducible apply (pu_neA (E:=23)));exact Tryz.underlying25;kernel_rfl;kernel_rfl;kernel_rfl;kernel_rfl;rfl;rfl;(refine apk ?_))|exact xf|refine aw0 ?_|(refine ap2 ?_ ?_<;>try intro h)|refine aw1 ?_|(refine abx ?_;intro bb)|(refine abz ?_;intro bz)|(refine ahv ?_;intro v' hv')|(refine aac ?_;intro ac cc)|refine aw2 ?_|(refine ap4 ?_ ?_<;>try intro h)|apply True.intro)
 all_goals
  ((with_reducible apply fp_ret);exact res_1 rfl rfl)
  exact HR.out _ _ _ [] atks ⟨⟨_,rfl,fun hb=>by
   first
    | contradiction
    | (refine ⟨by omega,fun _=>by omega,fun hk=>?_⟩
       first
        | (exfalso;omega)
        | exact HF1.out (by assumption) (by assumption)
        | exact HF2.out (by assumption) (by assumption))⟩,rfl⟩
theorem tnode6_any (r:Hp) (s0 s1 s2 s3:Nat) (kv:Value) (l:List NoV) (mn mx:Int) (lz:Bool) (gr:Int) (hl:Els r 10 encN kv l) (hk1:one? kv=true):Tri Tryz.prog r 24 [.agg [.int .i64 6,.int .u64 s0,.int .u64 s1,.int .u64 s2,.int .u64 s3,kv,.int .i64 mn,.int .i64 mx,.bool lz,.int .i64 gr].toArray] [] fun w H=>(∃ b,w = .bool b/\(b=true->NodeC 6 l.length mn mx))/\H=[]:=by
 have hlm:=maxI hl.2.2.1
 have hB0:([.int .i64 6,.int .u64 0,.int .u64 0,.int .u64 0,.int .u64 0,kv,.int .i64 0,.int .i64 0,.bool false,.int .i64 0]:List Value).all one?=true:=by
  simp only [List.all_cons,List.all_nil,hk1,Bool.and_true];rfl
 unfold NodeC
 obtain ⟨A,hA⟩ : ∃ A,max mn 0=A:=⟨_,rfl⟩
 obtain ⟨u,hu⟩ : ∃ u,min A 100=u:=⟨_,rfl⟩
 obtain ⟨B,hB⟩ : ∃ B,min mx 100=B:=⟨_,rfl⟩
 obtain ⟨w,hw⟩ : ∃ w,max B u=w:=⟨_,rfl⟩
 obtain ⟨A2,hA2⟩ : ∃ A,max gr 1=A:=⟨_,rfl⟩
 obtain ⟨u2,hu2⟩ : ∃ u,min A2 20=u:=⟨_,rfl⟩
 obtain ⟨n2,hn2⟩ : ∃ A,max (l.length:Int) 2=A:=⟨_,rfl⟩
 have hfin1:mn=u->mx=w->0<=mn/\mn<=100/\mx<=100/\(mx = -1\/mn<=mx):=by omega
 have hfin2:mn=u->mx = -1->0<=mn/\mn<=100/\mx<=100/\(mx = -1\/mn<=mx):=by omega
 have HA:=hid hA
 have HU:=hid hu
 have HB:=hid hB
 have HW:=hid hw
 have HA2:=hid hA2
 have HU2:=hid hu2
 have HN2:=hid hn2
 have HF1:=hid hfin1
 have HF2:=hid hfin2
 clear hA hu hB hw hA2 hu2 hn2 hfin1 hfin2
 refine Tri.free2 fun R HR=>?_
 refine ae Tryz.func24 Tryz.ntmps24 ?_
 repeat' (first|(rw [HA.out])|(rw [HU.out])|(rw [HB.out])|(rw [HW.out])|(rw [HA2.out])|(rw [HU2.out])|(rw [HN2.out])|((with_reducible apply kx_box);rfl;(exact qcl);intro b1;(refine apk ?_))|((with_reducible apply kx_alloc (E:=28));exact ty_zero;(exact qcl);intro b3;(refine apk ?_))|((with_reducible apply kx_storeN);exact ty_size;rfl;rfl;rfl;(exact qsw);exact hB0;(exact qst);(refine apk ?_))|((with_reducible apply sw_draw (id:=12) 14 [(0,true),(1,true),(2,true),(3,true),(4,true),(5,true),(6,true),(7,true),(8,true),(9,true),(10,true),(11,false),(12,true),(13,false)] [(14,false),(15,false)] [(b1,.cells ([.int .i64 6,.int .u64 s0,.int .u64 s1,.int .u64 s2,.int .u64 s3,kv,.int .i64 mn,.int .i64 mx,.bool lz,.int .i64 gr]:List Value).toArray 28 (0,0))]);kernel_rfl;(exact atks);kernel_rfl;intro r' hl')|((with_reducible apply sw_draw (id:=16) 5 [(0,true),(1,true),(2,true),(3,true),(4,true)] [(5,false),(6,false)] [(b1,.cells ([.int .i64 6,.int .u64 s0,.int .u64 s1,.int .u64 s2,.int .u64 s3,kv,.int .i64 mn,.int .i64 mx,.bool lz,.int .i64 gr]:List Value).toArray 28 (0,0))]);kernel_rfl;(exact atks);kernel_rfl;intro r' hl')|((with_reducible apply pi_pur);rfl;(exact qwt);(with_reducible apply pu_ldP);rfl;(first|assumption|exact Lent.h1 hl'|exact Lent.h2 hl'|exact Lent.h3 hl');(simp only [cut,List.drop_succ_cons,List.drop_zero,List.take_succ_cons,List.take_zero];rfl);rfl;(refine apk ?_))|((with_reducible apply swo_pur);(with_reducible apply (pu_eqA (E:=23)));exact Tryz.underlying25;kernel_rfl;kernel_rfl;kernel_rfl;kernel_rfl;rfl;rfl;(refine apk ?_))|((with_reducible apply kx_ldP);rfl;(exact atk);(simp only [cut,List.drop_succ_cons,List.drop_zero,List.take_succ_cons,List.take_zero];rfl);rfl;(refine apk ?_))|exact xf|refine aw0 ?_|(refine ap2 ?_ ?_<;>try intro h)|refine aw1 ?_|(refine abx ?_;intro bb)|(refine abz ?_;intro bz)|(refine ahv ?_;intro v' hv')|(refine aac ?_;intro ac cc)|refine aw2 ?_|(refine ap4 ?_ ?_<;>try intro h)|apply True.intro)
 all_goals
  repeat' (first|((with_reducible apply sw_draw (id:=18) 18 [(0,true),(1,true),(2,true),(3,true),(4,true),(5,true),(6,true),(7,true),(8,true),(9,true),(10,true),(11,true),(12,true),(13,true),(14,true),(15,true),(16,true),(17,true)] [(18,false)] [(b1,.cells ([.int .i64 6,.int .u64 s0,.int .u64 s1,.int .u64 s2,.int .u64 s3,kv,.int .i64 mn,.int .i64 mx,.bool lz,.int .i64 gr]:List Value).toArray 28 (0,0))]);kernel_rfl;(exact atks);kernel_rfl;intro r' hl')|((with_reducible apply pi_pur);rfl;(exact qwt);(with_reducible apply pu_ldP);rfl;(first|assumption|exact Lent.h1 hl'|exact Lent.h2 hl'|exact Lent.h3 hl');(simp only [cut,List.drop_succ_cons,List.drop_zero,List.take_succ_cons,List.take_zero];rfl);rfl;(refine apk ?_))|((with_reducible apply pi_pur);rfl;(exact qwt);(with_reducible apply (pu_bldA (T:=25) (z:=[.int .u64 0,.int .u64 0,.int .u64 0,.int .u64 0])));exact Tryz.underlying25;exact ty_size;(refine apk ?_))|((with_reducible apply pi_pur);rfl;(exact qwt);(with_reducible apply (pu_neA (E:=23)));exact Tryz.underlying25;kernel_rfl;kernel_rfl;kernel_rfl;kernel_rfl;rfl;rfl;(refine apk ?_))|exact xf|refine aw0 ?_|(refine ap2 ?_ ?_<;>try intro h)|refine aw1 ?_|(refine abx ?_;intro bb)|(refine abz ?_;intro bz)|(refine ahv ?_;intro v' hv')|(refine aac ?_;intro ac cc)|refine aw2 ?_|(refine ap4 ?_ ?_<;>try intro h)|apply True.intro)
 all_goals
  ((with_reducible apply fp_ret);exact res_1 rfl rfl)
  exact HR.out _ _ _ [] atks ⟨⟨_,rfl,fun hb=>by
   first
    | contradiction
    | (refine ⟨by omega,fun _=>by omega,fun hk=>?_⟩
       first
        | (exfalso;omega)
        | exact HF1.out (by assumption) (by assumption)
        | exact HF2.out (by assumption) (by assumption))⟩,rfl⟩
theorem nodeC_ok {k:Int} {s0 s1 s2 s3:Nat} {kv:Value} {l:List NoV} {mn mx:Int} {lz:Bool} {g:Int} (h:NodeC k l.length mn mx):nodeOk (NoV.key (.mk k s0 s1 s2 s3 kv l mn mx lz g)):=by
 have e:(l.map NoV.key).length=l.length:=List.length_map _
 rw [nkeyM]
 exact ⟨h.1,fun hk=>e.trans (h.2.1 hk),h.2.2⟩
theorem tnode_any (r:Hp) (k:Int) (s0 s1 s2 s3:Nat) (kv:Value) (l:List NoV) (mn mx:Int) (lz:Bool) (gr:Int) (hl:Els r 10 encN kv l) (hk1:one? kv=true):Tri Tryz.prog r 24 [.agg [.int .i64 k,.int .u64 s0,.int .u64 s1,.int .u64 s2,.int .u64 s3,kv,.int .i64 mn,.int .i64 mx,.bool lz,.int .i64 gr].toArray] [] fun w H=>(∃ b,w = .bool b/\(b=true->NodeC k l.length mn mx))/\H=[]:=by
 by_cases h3:k=3
 · subst h3;exact tnode3_any r s0 s1 s2 s3 kv l mn mx lz gr hl hk1
 by_cases h4:k=4
 · subst h4;exact tnode4_any r s0 s1 s2 s3 kv l mn mx lz gr hl hk1
 by_cases h5:k=5
 · subst h5;exact tnode5_any r s0 s1 s2 s3 kv l mn mx lz gr hl hk1
 by_cases h6:k=6
 · subst h6;exact tnode6_any r s0 s1 s2 s3 kv l mn mx lz gr hl hk1
 by_cases h7:k=7
 · subst h7;exact tnode7_any r s0 s1 s2 s3 kv l mn mx lz gr hl hk1
 exact tnodeO_any r k s0 s1 s2 s3 kv l mn mx lz gr hl hk1 h3 h4 h5 h6 h7
theorem tright_of (r:Hp) (k:Int) (s0 s1 s2 s3:Nat) (kv:Value) (l:List NoV) (mn mx:Int) (lz:Bool) (gr:Int) (hn:NoR r (.mk k s0 s1 s2 s3 kv l mn mx lz gr)) (F:Nat) (hF:sizL [NoV.mk k s0 s1 s2 s3 kv l mn mx lz gr]=F) (hF2:F<=1000):Tri Tryz.prog r 7 [.agg [.int .i64 k,.int .u64 s0,.int .u64 s1,.int .u64 s2,.int .u64 s3,kv,.int .i64 mn,.int .i64 mx,.bool lz,.int .i64 gr].toArray] [] fun w H=>(∃ b,w = .bool b/\(b=true->AllN nodeOk (NoV.key (.mk k s0 s1 s2 s3 kv l mn mx lz gr))))/\H=[]:=by
 have hk1:=(noR_kids hn).2.2
 have hw:=within_any r k s0 s1 s2 s3 kv mn mx lz gr hk1
 have hsq:=fun B=>within_seq r B k s0 s1 s2 s3 kv l mn mx lz gr hn F hF hF2
 have hXl:=bfs_len F [NoV.mk k s0 s1 s2 s3 kv l mn mx lz gr] 1 (Nat.le_of_eq hF)
 have hXa:=fun h=>bfs_all (p:=nodeOk) F [NoV.mk k s0 s1 s2 s3 kv l mn mx lz gr] 1 (Nat.le_of_eq hF) h _ (List.mem_singleton_self _)
 have hXr:=bfs_read (r:=r) F [NoV.mk k s0 s1 s2 s3 kv l mn mx lz gr] 1 (fun x hx=>by obtain rfl:=List.mem_singleton.1 hx;exact hn)
 rw [hF] at hXl
 obtain ⟨X,hX⟩ : ∃ X,bfsN F [NoV.mk k s0 s1 s2 s3 kv l mn mx lz gr] 1=X:=⟨_,rfl⟩
 rw [hX] at hsq hXl hXa hXr
 obtain ⟨Q,hQ⟩ : ∃ Q,AllN nodeOk (NoV.key (.mk k s0 s1 s2 s3 kv l mn mx lz gr))=Q:=⟨_,rfl⟩
 rw [hQ] at hXa ⊢
 clear hn hX hF hQ
 refine Tri.free2 fun R HR=>?_
 refine ae Tryz.func7 Tryz.ntmps7 ?_
 repeat' (first|((with_reducible apply kx_box);rfl;(exact qcl);intro b1;(refine apk ?_))|((with_reducible apply kx_alloc (E:=4));exact ty_zero;(exact qcl);intro b2;(refine apk ?_))|((with_reducible apply kx_alloc (E:=3));exact ty_zero;(exact qcl);intro b3;(refine apk ?_))|(refine acl Tryz.func23 ?_;refine acr (hw) ?_;rintro v' H' ⟨B,rfl,rfl⟩;refine apl ?_)|exact xf|refine aw0 ?_|(refine ap2 ?_ ?_<;>try intro h)|refine aw1 ?_|(refine abx ?_;intro bb)|(refine abz ?_;intro bz)|(refine ahv ?_;intro v' hv')|(refine aac ?_;intro ac cc)|refine aw2 ?_|(refine ap4 ?_ ?_<;>try intro h)|apply True.intro)
 refine sw_range rfl (goesOf Tryz.func41 (by kernel_rfl) rfl) (hsq B) atks (fun _=>rfl)
  (fun j H=>(∀ y∈X.take j,nodeOk y.1.key) /\ ∃ G,Takes [pt b2 (.cells [.bool false].toArray 4 (0,0)),pt b3 (.cells [.int .i64 (j:Nat)].toArray 3 (0,0))] H G)
  (fun cd _ H=>cd = .ret /\ ∃ G,Takes [pt b2 (.cells [.bool false].toArray 4 (0,0))] H G) ?_ ?_ ?_ ?_
 · exact ⟨fun y hy=>(by simp at hy),_,by (exact atks)⟩
 · rintro kk j hj H ⟨hall,G,hp2⟩
   obtain ⟨y,hy⟩ : ∃ y,X[j]=y:=⟨_,rfl⟩
   have hyr:=hXr y (hy ▸ List.getElem_mem hj)
   have htk:X.take (j+1)=X.take j++[y]:=by rw [List.take_succ_eq_append_getElem hj,hy]
   obtain ⟨x,d⟩:=y
   rw [hy]
   obtain ⟨xk,x0,x1,x2,x3,xv,xl,xmn,xmx,xlz,xg⟩:=x
   obtain ⟨hkl,_,hx1⟩:=noR_kids hyr
   have hN:([.int .i64 xk,.int .u64 x0,.int .u64 x1,.int .u64 x2,.int .u64 x3,xv,.int .i64 xmn,.int .i64 xmx,.bool xlz,.int .i64 xg]:List Value).all one?=true:=by
    simp only [List.all_cons,List.all_nil,hx1,Bool.and_true];rfl
   have hnd:=tnode_any r xk x0 x1 x2 x3 xv xl xmn xmx xlz xg hkl hx1
   rw [show tellN (NoV.mk xk x0 x1 x2 x3 xv xl xmn xmx xlz xg,d)=[.agg [.int .i64 xk,.int .u64 x0,.int .u64 x1,.int .u64 x2,.int .u64 x3,xv,.int .i64 xmn,.int .i64 xmx,.bool xlz,.int .i64 xg].toArray,.int .i64 (d:Nat)] from rfl]
   refine sw_takeG hp2 ?_
   clear hp2 hyr
   refine sw_pars2 ?_
   (refine apk ?_)
   refine then2_mk ?_
   (refine apk ?_)
   repeat' (first|((with_reducible apply kx_alloc (E:=28));exact ty_zero;(exact qcl);intro b4;(refine apk ?_))|((with_reducible apply kx_storeN);exact ty_size;rfl;rfl;rfl;(exact qsw);exact hN;(exact qst);(refine apk ?_))|(refine acl Tryz.func24 ?_;refine acr (hnd) ?_;rintro v' H' ⟨⟨p,rfl,hp⟩,rfl⟩;cases p;all_goals refine apl ?_)|exact xf|refine aw0 ?_|(refine ap2 ?_ ?_<;>try intro h)|refine aw1 ?_|(refine abx ?_;intro bb)|(refine abz ?_;intro bz)|(refine ahv ?_;intro v' hv')|(refine aac ?_;intro ac cc)|refine aw2 ?_|(refine ap4 ?_ ?_<;>try intro h)|apply True.intro)
   · exact ⟨rfl,_,by (exact atks)⟩
   · refine ⟨fun y hy2=>?_,_,by (exact atks)⟩
     rw [htk] at hy2
     rcases List.mem_append.1 hy2 with h|h
     · exact hall y h
     · obtain rfl:=List.mem_singleton.1 h
       exact nodeC_ok (hp rfl)
 · rintro H ⟨hall,G,hp2⟩
   rw [List.take_length] at hall
   refine sw_takeG hp2 ?_
   clear hp2
   repeat' (first|exact xf|refine aw0 ?_|(refine ap2 ?_ ?_<;>try intro h)|refine aw1 ?_|(refine abx ?_;intro bb)|(refine abz ?_;intro bz)|(refine ahv ?_;intro v' hv')|(refine aac ?_;intro ac cc)|refine aw2 ?_|(refine ap4 ?_ ?_<;>try intro h)|apply True.intro)
   ((with_reducible apply fp_ret);exact res_c rfl ty_agg rfl (by (exact ard)))
   exact HR.out _ _ _ [] atks ⟨⟨true,rfl,fun _=>hXa hall⟩,rfl⟩
 · rintro cd i H hi ⟨rfl,G,hp2⟩
   refine sw_takeG hp2 ?_
   clear hp2
   repeat' (first|exact xf|refine aw0 ?_|(refine ap2 ?_ ?_<;>try intro h)|refine aw1 ?_|(refine abx ?_;intro bb)|(refine abz ?_;intro bz)|(refine ahv ?_;intro v' hv')|(refine aac ?_;intro ac cc)|refine aw2 ?_|(refine ap4 ?_ ?_<;>try intro h)|apply True.intro)
   ((with_reducible apply fp_ret);exact res_c rfl ty_agg rfl (by (exact ard)))
   exact HR.out _ _ _ [] atks ⟨⟨false,rfl,fun h=>by cases h⟩,rfl⟩
theorem tright_any (x:NoV) (hz:sizN x.key<=1000):TrRtT x:=fun r hn=>by
 obtain ⟨k,s0,s1,s2,s3,kv,l,mn,mx,lz,g⟩:=x
 exact tright_of r k s0 s1 s2 s3 kv l mn mx lz g hn _ rfl (by unfold sizL;simp only [List.map_cons,List.map_nil,sizNs];omega)
end Go.Proofs.YteknekiclhnkiaaGreatDoor
