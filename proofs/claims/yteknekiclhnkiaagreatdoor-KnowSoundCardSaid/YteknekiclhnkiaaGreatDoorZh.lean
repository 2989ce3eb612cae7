/- tree.node at groups, sets. -/
import Derived.Test.YteknekiclhnkiaaGreatDoorYx
import Derived.ChangeKeysEq
import Derived.Test.YteknekiclhnkiaaGreatDoorZd
set_option maxHeartbeats 16000000
set_option maxRecDepth 10000
namespace Go.Proofs.YteknekiclhnkiaaGreatDoor
open Go.RowKit
namespace Sx
section
variable {P : Program} {r : Hp} {t : List Value} {d : Option Tmp} {ty : TypeId} {pos : String} {af : Array Edge} {gd : Option (Nat × Bool)}
theorem eqA_run {w:World} {T E:TypeId} {i:TypeInfo} {a0 a1 a2 a3 b0 b1 b2 b3:Int} (hu:P.underlying T=some (.array 4 E)) (hk:kdB P E=some (.int .u64)) (hi:P.info? E=some i) (hc:P.cellsOf E=1) :
 (Op.equalIn 10000 T (.agg [.int .u64 a0,.int .u64 a1,.int .u64 a2,.int .u64 a3].toArray) (.agg [.int .u64 b0,.int .u64 b1,.int .u64 b2,.int .u64 b3].toArray)).run P w = .ok (decide (a0=b0) && (decide (a1=b1) && (decide (a2=b2) && decide (a3=b3)))) w:=by
 have e : ∀ (a b:Int) (w:World),(Op.equalIn (9998+1) E (.int .u64 a) (.int .u64 b)).run P w = .ok (decide (a=b)) w:=fun a b w=>eqV_run hk (by unfold eqV;simp)
 have hA:=run_isAgg (P:=P) (kd_flat hk rfl)
 rw [run_equalIn_array w 9999 _ _ hu hi,hc,show List.range 4=[0,1,2,3] from rfl]
 simp only [Op.eqItems,part,Sem.run_bind,hA,Result.andThen,Bool.false_eq_true,if_false,List.getElem?_toArray,Nat.mul_one,List.getElem?_cons_zero,List.getElem?_cons_succ,Sem.run_pure,e]
 cases h0:decide (a0=b0)
 · simp only [if_true,Bool.not_false,Sem.run_pure];rfl
 simp only [Sem.run_bind,hA,Result.andThen,Bool.false_eq_true,if_false,Bool.not_true,Sem.run_pure,e]
 cases h1:decide (a1=b1)
 · simp only [if_true,Bool.not_false,Sem.run_pure];rfl
 simp only [Sem.run_bind,hA,Result.andThen,Bool.false_eq_true,if_false,Bool.not_true,Sem.run_pure,e]
 cases h2:decide (a2=b2)
 · simp only [if_true,Bool.not_false,Sem.run_pure];rfl
 simp only [Sem.run_bind,hA,Result.andThen,Bool.false_eq_true,if_false,Bool.not_true,Sem.run_pure,e]
 cases h3:decide (a3=b3)
 · simp only [if_true,Bool.not_false,Sem.run_pure];rfl
 simp only [Bool.false_eq_true,if_false,Bool.not_true,Sem.run_pure]
 rfl
theorem pu_eqA {T T' E:TypeId} {x y:Operand} {a0 a1 a2 a3 b0 b1 b2 b3:Int} (hu:P.underlying T=some (.array 4 E)) (hk:kdB P E=some (.int .u64)) (hi:(P.info? E).isSome=true) (hc:P.cellsOf E=1) (hg:P.eqGuardType P.depth T=false) (hx:evO t x=some (.agg [.int .u64 a0,.int .u64 a1,.int .u64 a2,.int .u64 a3].toArray)) (hy:evO t y=some (.agg [.int .u64 b0,.int .u64 b1,.int .u64 b2,.int .u64 b3].toArray)) :
 Pur P r t ⟨d,.binOp .eql T x y T',ty,pos,af,gd⟩ (.bool (decide (a0=b0) && (decide (a1=b1) && (decide (a2=b2) && decide (a3=b3))))):=by
 obtain ⟨i,hi⟩:=Option.isSome_iff_exists.1 hi
 refine ⟨rfl,fun w _=>?_⟩
 simp only [execOp,ev_of hx,ev_of hy,Sem.run_bind,run_eqGuard_agg w .eql T x y _ _ hg,run_eql_struct w T,eqA_run hu hk hi hc,Result.andThen,Sem.run_pure]
theorem pu_neA {T T' E:TypeId} {x y:Operand} {a0 a1 a2 a3 b0 b1 b2 b3:Int} (hu:P.underlying T=some (.array 4 E)) (hk:kdB P E=some (.int .u64)) (hi:(P.info? E).isSome=true) (hc:P.cellsOf E=1) (hg:P.eqGuardType P.depth T=false) (hx:evO t x=some (.agg [.int .u64 a0,.int .u64 a1,.int .u64 a2,.int .u64 a3].toArray)) (hy:evO t y=some (.agg [.int .u64 b0,.int .u64 b1,.int .u64 b2,.int .u64 b3].toArray)) :
 Pur P r t ⟨d,.binOp .neq T x y T',ty,pos,af,gd⟩ (.bool (!(decide (a0=b0) && (decide (a1=b1) && (decide (a2=b2) && decide (a3=b3)))))):=by
 obtain ⟨i,hi⟩:=Option.isSome_iff_exists.1 hi
 refine ⟨rfl,fun w _=>?_⟩
 simp only [execOp,ev_of hx,ev_of hy,Sem.run_bind,run_eqGuard_agg w .neq T x y _ _ hg,run_neq_struct w T,eqA_run hu hk hi hc,Result.andThen,Sem.run_pure]
theorem pu_bldA {T E:TypeId} {z:List Value} {m n b:Nat} [hz:TyZ P T (.agg z.toArray) n b] (hu:P.underlying T=some (.array m E)) (hE:sizeB P E=some 1):Pur P r t ⟨d,.build T #[],ty,pos,af,gd⟩ (.agg z.toArray):=by
 refine ⟨rfl,fun w _=>?_⟩
 obtain ⟨i,hi,hi1,hi2,hi3⟩:=infB_s hz.inf
 simp [execOp,Instr.build,zeroValue,typeInfo,hi,hi1,Sem.run_bind,Result.andThen,run_underlying hu,run_sizeOf hE,Instr.fill,Value.cells]
end
end Sx
end Go.Proofs.YteknekiclhnkiaaGreatDoor
namespace Go.Proofs.YteknekiclhnkiaaGreatDoor
open Go.RowKit Sx
theorem tsize_any (r:Hp) (k:Int) (s0 s1 s2 s3:Nat) (kv:Value) (l:List NoV) (mn mx:Int) (lz:Bool) (gr:Int) (hn:NoR r (.mk k s0 s1 s2 s3 kv l mn mx lz gr)) (F:Nat) (hF:sizL [NoV.mk k s0 s1 s2 s3 kv l mn mx lz gr]=F) (hF2:F<=1000):Tri Tryz.prog r 8 [.agg [.int .i64 k,.int .u64 s0,.int .u64 s1,.int .u64 s2,.int .u64 s3,kv,.int .i64 mn,.int .i64 mx,.bool lz,.int .i64 gr].toArray] [] fun w H=>w = .int .i64 (F:Nat)/\H=[]:=by
 have hw:=within_any r k s0 s1 s2 s3 kv mn mx lz gr (noR_kids hn).2.2
 have hk1:=(noR_kids hn).2.2
 have hsq:=fun B=>within_seq r B k s0 s1 s2 s3 kv l mn mx lz gr hn F hF hF2
 have hXl:=bfs_len F [NoV.mk k s0 s1 s2 s3 kv l mn mx lz gr] 1 (Nat.le_of_eq hF)
 rw [hF] at hXl
 obtain ⟨X,hX⟩ : ∃ X,bfsN F [NoV.mk k s0 s1 s2 s3 kv l mn mx lz gr] 1=X:=⟨_,rfl⟩
 rw [hX] at hsq hXl
 clear hn hX hF
 refine Tri.free2 fun R HR=>?_
 refine ae Tryz.func8 Tryz.ntmps8 ?_
 repeat' (first|((with_reducible apply kx_box);rfl;(exact qcl);intro b1;(refine apk ?_))|((with_reducible apply kx_alloc (E:=3));exact ty_zero;(exact qcl);intro b2;(refine apk ?_))|(refine acl Tryz.func23 ?_;refine acr (hw) ?_;rintro v' H' ⟨B,rfl,rfl⟩;refine apl ?_)|exact xf|refine aw0 ?_|(refine ap2 ?_ ?_<;>try intro h)|refine aw1 ?_|(refine abx ?_;intro bb)|(refine abz ?_;intro bz)|(refine ahv ?_;intro v' hv')|(refine aac ?_;intro ac cc)|refine aw2 ?_|(refine ap4 ?_ ?_<;>try intro h)|apply True.intro)
 refine sw_range rfl (goesOf Tryz.func41 (by kernel_rfl) rfl) (hsq B) atks (fun _=>rfl)
  (fun j H => ∃ G,Takes [pt b2 (.cells [.int .i64 (j:Nat)].toArray 3 (0,0))] H G)
  (fun _ _ _=>False) ?_ ?_ ?_ (fun _ _ _ _ h=>h.elim)
 · exact ⟨_,by (exact atks)⟩
 · rintro kk j hj H ⟨G,hp2⟩
   obtain ⟨y,hy⟩ : ∃ y,X[j]=y:=⟨_,rfl⟩
   rw [hy,show tellN y=[.agg (encN y.1).toArray,.int .i64 (y.2:Nat)] from rfl]
   refine sw_takeG hp2 ?_
   clear hp2
   refine sw_pars2 ?_
   (refine apk ?_)
   refine then2_mk ?_
   (refine apk ?_)
   repeat' (first|exact xf|refine aw0 ?_|(refine ap2 ?_ ?_<;>try intro h)|refine aw1 ?_|(refine abx ?_;intro bb)|(refine abz ?_;intro bz)|(refine ahv ?_;intro v' hv')|(refine aac ?_;intro ac cc)|refine aw2 ?_|(refine ap4 ?_ ?_<;>try intro h)|apply True.intro)
   exact ⟨_,by (exact atks)⟩
 · rintro H ⟨G,hp2⟩
   rw [hXl] at hp2
   refine sw_takeG hp2 ?_
   clear hp2
   repeat' (first|exact xf|refine aw0 ?_|(refine ap2 ?_ ?_<;>try intro h)|refine aw1 ?_|(refine abx ?_;intro bb)|(refine abz ?_;intro bz)|(refine ahv ?_;intro v' hv')|(refine aac ?_;intro ac cc)|refine aw2 ?_|(refine ap4 ?_ ?_<;>try intro h)|apply True.intro)
   ((with_reducible apply fp_ret);exact res_c rfl ty_agg rfl (by (exact ard)))
   exact HR.out _ _ _ [] atks ⟨rfl,rfl⟩
def NodeC (k:Int) (n:Nat) (mn mx:Int):Prop:=(1<=k/\k<=13)/\(k=6\/k=7->n=1)/\(k=6->0<=mn/\mn<=100/\mx<=100/\(mx = -1\/mn<=mx))
theorem tnodeO_any (r:Hp) (k:Int) (s0 s1 s2 s3:Nat) (kv:Value) (l:List NoV) (mn mx:Int) (lz:Bool) (gr:Int) (hl:Els r 10 encN kv l) (hk1:one? kv=true) (h3:¬ k=3) (h4:¬ k=4) (h5:¬ k=5) (h6:¬ k=6) (h7:¬ k=7):Tri Tryz.prog r 24 [.agg [.int .i64 k,.int .u64 s0,.int .u64 s1,.int .u64 s2,.int .u64 s3,kv,.int .i64 mn,.int .i64 mx,.bool lz,.int .i64 gr].toArray] [] fun w H=>(∃ b,w = .bool b/\(b=true->NodeC k l.length mn mx))/\H=[]:=by
 have hlm:=maxI hl.2.2.1
 have hB0:([.int .i64 k,.int .u64 0,.int .u64 0,.int .u64 0,.int .u64 0,kv,.int .i64 0,.int .i64 0,.bool false,.int .i64 0]:List Value).all one?=true:=by
  simp only [List.all_cons,List.all_nil,hk1,Bool.and_true];rfl
 unfold NodeC
 obtain ⟨A,hA⟩ : ∃ A,max mn 0=A:=⟨_,rfl⟩
 obtain ⟨u,hu⟩ : ∃ u,min A 100=u:=⟨_,rfl⟩
 obtain ⟨B,hB⟩ : ∃ B,min mx 100=B:=⟨_,rfl⟩
 obtain ⟨w,hw⟩ : ∃ w,max B u=w:=⟨_,rfl⟩
 obtain ⟨A2,hA2⟩ : ∃ A,max gr 1=A:=⟨_,rfl⟩
 obtain ⟨u2,hu2⟩ : ∃ u,min A2 20=u:=⟨_,rfl⟩
 obtain ⟨n2,hn2⟩ : ∃ A,max (l.length:Int) 2=A:=⟨_,rfl⟩
 have hfin1:mn=u->mx=w->0<=mn/\mn<=100/\mx<=100/\(mx = -1\/mn<=mx):=by omega
 have hfin2:mn=u->mx = -1->0<=mn/\mn<=100/\mx<=100/\(mx = -1\/mn<=mx):=by omega
 have HA:=hid hA
 have HU:=hid hu
 have HB:=hid hB
 have HW:=hid hw
 have HA2:=hid hA2
 have HU2:=hid hu2
 have HN2:=hid hn2
 have HF1:=hid hfin1
 have HF2:=hid hfin2
 clear hA hu hB hw hA2 hu2 hn2 hfin1 hfin2
 refine Tri.free2 fun R HR=>?_
 refine ae Tryz.func24 Tryz.ntmps24 ?_
 repeat' (first|(rw [HA.out])|(rw [HU.out])|(rw [HB.out])|(rw [HW.out])|(rw [HA2.out])|(rw [HU2.out])|(rw [HN2.out])|((with_reducible apply kx_box);rfl;(exact qcl);intro b1;(refine apk ?_))|((with_reducible apply kx_alloc (E:=28));exact ty_zero;(exact qcl);intro b3;(refine apk ?_))|((with_reducible apply kx_storeN);exact ty_size;rfl;rfl;rfl;(exact qsw);exact hB0;(exact qst);(refine apk ?_))|((with_reducible apply sw_draw (id:=12) 14 [(0,true),(1,true),(2,true),(3,true),(4,true),(5,true),(6,true),(7,true),(8,true),(9,true),(10,true),(11,false),(12,true),(13,false)] [(14,false),(15,false)] [(b1,.cells ([.int .i64 k,.int .u64 s0,.int .u64 s1,.int .u64 s2,.int .u64 s3,kv,.int .i64 mn,.int .i64 mx,.bool lz,.int .i64 gr]:List Value).toArray 28 (0,0))]);kernel_rfl;(exact atks);kernel_rfl;intro r' hl')|((with_reducible apply sw_draw (id:=16) 5 [(0,true),(1,true),(2,true),(3,true),(4,true)] [(5,false),(6,false)] [(b1,.cells ([.int .i64 k,.int .u64 s0,.int .u64 s1,.int .u64 s2,.int .u64 s3,kv,.int .i64 mn,.int .i64 mx,.bool lz,.int .i64 gr]:List Value).toArray 28 (0,0))]);kernel_rfl;(exact atks);kernel_rfl;intro r' hl')|((with_reducible apply pi_pur);rfl;(exact qwt);(with_reducible apply pu_ldP);rfl;(first|assumption|exact Lent.h1 hl'|exact Lent.h2 hl'|exact Lent.h3 hl');(simp only [cut,List.drop_succ_cons,List.drop_zero,List.take_succ_cons,List.take_zero];rfl);rfl;(refine apk ?_))|((with_reducible apply swo_pur);(with_reducible apply (pu_eqA (E:=23)));exact Tryz.underlying25;kernel_rfl;kernel_rfl;kernel_rfl;kernel_rfl;rfl;rfl;(refine apk ?_))|((with_reducible apply kx_ldP);rfl;(exact atk);(simp only [cut,List.drop_succ_cons,List.drop_zero,List.take_succ_cons,List.take_zero];rfl);rfl;(refine apk ?_))|exact xf|refine aw0 ?_|(refine ap2 ?_ ?_<;>try intro h)|refine aw1 ?_|(refine abx ?_;intro bb)|(refine abz ?_;intro bz)|(refine ahv ?_;intro v' hv')|(refine aac ?_;intro ac cc)|refine aw2 ?_|(refine ap4 ?_ ?_<;>try intro h)|apply True.intro)
 all_goals
  repeat' (first|((with_reducible apply sw_draw (id:=18) 18 [(0,true),(1,true),(2,true),(3,true),(4,true),(5,true),(6,true),(7,true),(8,true),(9,true),(10,true),(11,true),(12,true),(13,true),(14,true),(15,true),(16,true),(17,true)] [(18,false)] [(b1,.cells ([.int .i64 k,.int .u64 s0,.int .u64 s1,.int .u64 s2,.int .u64 s3,kv,.int .i64 mn,.int .i64 mx,.bool lz,.int .i64 gr]:List Value).toArray 28 (0,0))]);kernel_rfl;(exact atks);kernel_rfl;intro r' hl')|((with_reducible apply pi_pur);rfl;(exact qwt);(with_reducible apply pu_ldP);rfl;(first|assumption|exact Lent.h1 hl'|exact Lent.h2 hl'|exact Lent.h3 hl');(simp only [cut,List.drop_succ_cons,List.drop_zero,List.take_succ_cons,List.take_zero];rfl);rfl;(refine apk ?_))|((with_reducible apply pi_pur);rfl;(exact qwt);(with_reducible apply (pu_bldA (T:=25) (z:=[.int .u64 0,.int .u64 0,.int .u64 0,.int .u64 0])));exact Tryz.underlying25;exact ty_size;(refine apk ?_))|((with_reducible apply pi_pur);rfl;(exact qwt);(with_reducible apply (pu_neA (E:=23)));exact Tryz.underlying25;kernel_rfl;kernel_rfl;kernel_rfl;kernel_rfl;rfl;rfl;(refine apk ?_))|exact xf|refine aw0 ?_|(refine ap2 ?_ ?_<;>try intro h)|refine aw1 ?_|(refine abx ?_;intro bb)|(refine abz ?_;intro bz)|(refine ahv ?_;intro v' hv')|(refine aac ?_;intro ac cc)|refine aw2 ?_|(refine ap4 ?_ ?_<;>try intro h)|apply True.intro)
 all_goals
  ((with_reducible apply fp_ret);exact res_1 rfl rfl)
  exact HR.out _ _ _ [] atks ⟨⟨_,rfl,fun hb=>by
   first
    | contradiction
    | (refine ⟨by omega,fun _=>by omega,fun hk=>?_⟩
       first
        | (exfalso;omega)
        | exact HF1.out (by assumption) (by assumption)
        | exact HF2.out (by assumption) (by assumption))⟩,rfl⟩
theorem tnode7_any (r:Hp) (s0 s1 s2 s3:Nat) (kv:Value) (l:List NoV) (mn mx:Int) (lz:Bool) (gr:Int) (hl:Els r 10 encN kv l) (hk1:one? kv=true):Tri Tryz.prog r 24 [.agg [.int .i64 7,.int .u64 s0,.int .u64 s1,.int .u64 s2,.int .u64 s3,kv,.int .i64 mn,.int .i64 mx,.bool lz,.int .i64 gr].toArray] [] fun w H=>(∃ b,w = .bool b/\(b=true->NodeC 7 l.length mn mx))/\H=[]:=by
 have hlm:=maxI hl.2.2.1
 have hB0:([.int .i64 7,.int .u64 0,.int .u64 0,.int .u64 0,.int .u64 0,kv,.int .i64 0,.int .i64 0,.bool false,.int .i64 0]:List Value).all one?=true:=by
  simp only [List.all_cons,List.all_nil,hk1,Bool.and_true];rfl
 unfold NodeC
 obtain ⟨A,hA⟩ : ∃ A,max mn 0=A:=⟨_,rfl⟩
 obtain ⟨u,hu⟩ : ∃ u,min A 100=u:=⟨_,rfl⟩
 obtain ⟨B,hB⟩ : ∃ B,min mx 100=B:=⟨_,rfl⟩
 obtain ⟨w,hw⟩ : ∃ w,max B u=w:=⟨_,rfl⟩
 obtain ⟨A2,hA2⟩ : ∃ A,max gr 1=A:=⟨_,rfl⟩
 obtain ⟨u2,hu2⟩ : ∃ u,min A2 20=u:=⟨_,rfl⟩
 obtain ⟨n2,hn2⟩ : ∃ A,max (l.length:Int) 2=A:=⟨_,rfl⟩
 have hfin1:mn=u->mx=w->0<=mn/\mn<=100/\mx<=100/\(mx = -1\/mn<=mx):=by omega
 have hfin2:mn=u->mx = -1->0<=mn/\mn<=100/\mx<=100/\(mx = -1\/mn<=mx):=by omega
 have HA:=hid hA
 have HU:=hid hu
 have HB:=hid hB
 have HW:=hid hw
 have HA2:=hid hA2
 have HU2:=hid hu2
 have HN2:=hid hn2
 have HF1:=hid hfin1
 have HF2:=hid hfin2
 clear hA hu hB hw hA2 hu2 hn2 hfin1 hfin2
 refine Tri.free2 fun R HR=>?_
 refine ae Tryz.func24 Tryz.ntmps24 ?_
 repeat' (first|(rw [HA.out])|(rw [HU.out])|(rw [HB.out])|(rw [HW.out])|(rw [HA2.out])|(rw [HU2.out])|(rw [HN2.out])|((with_reducible apply kx_box);rfl;(exact qcl);intro b1;(refine apk ?_))|((with_reducible apply kx_alloc (E:=28));exact ty_zero;(exact qcl);intro b3;(refine apk ?_))|((with_reducible apply kx_storeN);exact ty_size;rfl;rfl;rfl;(exact qsw);exact hB0;(exact qst);(refine apk ?_))|((with_reducible apply sw_draw (id:=12) 14 [(0,true),(1,true),(2,true),(3,true),(4,true),(5,true),(6,true),(7,true),(8,true),(9,true),(10,true),(11,false),(12,true),(13,false)] [(14,false),(15,false)] [(b1,.cells ([.int .i64 7,.int .u64 s0,.int .u64 s1,.int .u64 s2,.int .u64 s3,kv,.int .i64 mn,.int .i64 mx,.bool lz,.int .i64 gr]:List Value).toArray 28 (0,0))]);kernel_rfl;(exact atks);kernel_rfl;intro r' hl')|((with_reducible apply sw_draw (id:=16) 5 [(0,true),(1,true),(2,true),(3,true),(4,true)] [(5,false),(6,false)] [(b1,.cells ([.int .i64 7,.int .u64 s0,.int .u64 s1,.int .u64 s2,.int .u64 s3,kv,.int .i64 mn,.int .i64 mx,.bool lz,.int .i64 gr]:List Value).toArray 28 (0,0))]);kernel_rfl;(exact atks);kernel_rfl;intro r' hl')|((with_reducible apply pi_pur);rfl;(exact qwt);(with_reducible apply pu_ldP);rfl;(first|assumption|exact Lent.h1 hl'|exact Lent.h2 hl'|exact Lent.h3 hl');(simp only [cut,List.drop_succ_cons,List.drop_zero,List.take_succ_cons,List.take_zero];rfl);rfl;(refine apk ?_))|((with_reducible apply swo_pur);(with_reducible apply (pu_eqA (E:=23)));exact Tryz.underlying25;kernel_rfl;kernel_rfl;kernel_rfl;kernel_rfl;rfl;rfl;(refine apk ?_))|((with_reducible apply kx_ldP);rfl;(exact atk);(simp only [cut,List.drop_succ_cons,List.drop_zero,List.take_succ_cons,List.take_zero];rfl);rfl;(refine apk ?_))|exact xf|refine aw0 ?_|(refine ap2 ?_ ?_<;>try intro h)|refine aw1 ?_|(refine abx ?_;intro bb)|(refine abz ?_;intro bz)|(refine ahv ?_;intro v' hv')|(refine aac ?_;intro ac cc)|refine aw2 ?_|(refine ap4 ?_ ?_<;>try intro h)|apply True.intro)
 all_goals
  repeat' (first|((with_reducible apply sw_draw (id:=18) 18 [(0,true),(1,true),(2,true),(3,true),(4,true),(5,true),(6,true),(7,true),(8,true),(9,true),(10,true),(11,true),(12,true),(13,true),(14,true),(15,true),(16,true),(17,true)] [(18,false)] [(b1,.cells ([.int .i64 7,.int .u64 s0,.int .u64 s1,.int .u64 s2,.int .u64 s3,kv,.int .i64 mn,.int .i64 mx,.bool lz,.int .i64 gr]:List Value).toArray 28 (0,0))]);kernel_rfl;(exact atks);kernel_rfl;intro r' hl')|((with_reducible apply pi_pur);rfl;(exact qwt);(with_reducible apply pu_ldP);rfl;(first|assumption|exact Lent.h1 hl'|exact Lent.h2 hl'|exact Lent.h3 hl');(simp only [cut,List.drop_succ_cons,List.drop_zero,List.take_succ_cons,List.take_zero];rfl);rfl;(refine apk ?_))|((with_reducible apply pi_pur);rfl;(exact qwt);(with_reducible apply (pu_bldA (T:=25) (z:=[.int .u64 0,.int .u64 0,.int .u64 0,.int .u64 0])));exact Tryz.underlying25;exact ty_size;(refine apk ?_))|((with_reducible apply pi_pur);rfl;(exact qwt);(with_reducible apply (pu_neA (E:=23)));exact Tryz.underlying25;kernel_rfl;kernel_rfl;kernel_rfl;kernel_rfl;rfl;rfl;(refine apk ?_))|exact xf|refine aw0 ?_|(refine ap2 ?_ ?_<;>try intro h)|refine aw1 ?_|(refine abx ?_;intro bb)|(refine abz ?_;intro bz)|(refine ahv ?_;intro v' hv')|(refine aac ?_;intro ac cc)|refine aw2 ?_|(refine ap4 ?_ ?_<;>try intro h)|apply True.intro)
 all_goals
  ((with_reducible apply fp_ret);exact res_1 rfl rfl)
  exact HR.out _ _ _ [] atks ⟨⟨_,rfl,fun hb=>by
   first
    | contradiction
    | (refine ⟨by omega,fun _=>by omega,fun hk=>?_⟩
       first
        | (exfalso;omega)
        | exact HF1.out (by assumption) (by assumption)
        | exact HF2.out (by assumption) (by assumption))⟩,rfl⟩
theorem tnode3_any (r:Hp) (s0 s1 s2 s3:Nat) (kv:Value) (l:List NoV) (mn mx:Int) (lz:Bool) (gr:Int) (hl:Els r 10 encN kv l) (hk1:one? kv=true):Tri Tryz.prog r 24 [.agg [.int .i64 3,.int .u64 s0,.int .u64 s1,.int .u64 s2,.int .u64 s3,kv,.int .i64 mn,.int .i64 mx,.bool lz,.int .i64 gr].toArray] [] fun w H=>(∃ b,w = .bool b/\(b=true->NodeC 3 l.length mn mx))/\H=[]:=by
 have hlm:=maxI hl.2.2.1
 have hB0:([.int .i64 3,.int .u64 0,.int .u64 0,.int .u64 0,.int .u64 0,kv,.int .i64 0,.int .i64 0,.bool false,.int .i64 0]:List Value).all one?=true:=by
  simp only [List.all_cons,List.all_nil,hk1,Bool.and_true];rfl
 unfold NodeC
 obtain ⟨A,hA⟩ : ∃ A,max mn 0=A:=⟨_,rfl⟩
 obtain ⟨u,hu⟩ : ∃ u,min A 100=u:=⟨_,rfl⟩
 obtain ⟨B,hB⟩ : ∃ B,min mx 100=B:=⟨_,rfl⟩
 obtain ⟨w,hw⟩ : ∃ w,max B u=w:=⟨_,rfl⟩
 obtain ⟨A2,hA2⟩ : ∃ A,max gr 1=A:=⟨_,rfl⟩
 obtain ⟨u2,hu2⟩ : ∃ u,min A2 20=u:=⟨_,rfl⟩
 obtain ⟨n2,hn2⟩ : ∃ A,max (l.length:Int) 2=A:=⟨_,rfl⟩
 have hfin1:mn=u->mx=w->0<=mn/\mn<=100/\mx<=100/\(mx = -1\/mn<=mx):=by omega
 have hfin2:mn=u->mx = -1->0<=mn/\mn<=100/\mx<=100/\(mx = -1\/mn<=mx):=by omega
 have HA:=hid hA
 have HU:=hid hu
 have HB:=hid hB
 have HW:=hid hw
 have HA2:=hid hA2
 have HU2:=hid hu2
 have HN2:=hid hn2
 have HF1:=hid hfin1
 have HF2:=hid hfin2
 clear hA hu hB hw hA2 hu2 hn2 hfin1 hfin2
 refine Tri.free2 fun R HR=>?_
 refine ae Tryz.func24 Tryz.ntmps24 ?_
 repeat' (first|(rw [HA.out])|(rw [HU.out])|(rw [HB.out])|(rw [HW.out])|(rw [HA2.out])|(rw [HU2.out])|(rw [HN2.out])|((with_reducible apply kx_box);rfl;(exact qcl);intro b1;(refine apk ?_))|((with_reducible apply kx_alloc (E:=28));exact ty_zero;(exact qcl);intro b3;(refine apk ?_))|((with_reducible apply kx_storeN);exact ty_size;rfl;rfl;rfl;(exact qsw);exact hB0;(exact qst);(refine apk ?_))|((with_reducible apply sw_draw (id:=12) 14 [(0,true),(1,true),(2,true),(3,true),(4,true),(5,true),(6,true),(7,true),(8,true),(9,true),(10,true),(11,false),(12,true),(13,false)] [(14,false),(15,false)] [(b1,.cells ([.int .i64 3,.int .u64 s0,.int .u64 s1,.int .u64 s2,.int .u64 s3,kv,.int .i64 mn,.int .i64 mx,.bool lz,.int .i64 gr]:List Value).toArray 28 (0,0))]);kernel_rfl;(exact atks);kernel_rfl;intro r' hl')|((with_reducible apply sw_draw (id:=16) 5 [(0,true),(1,true),(2,true),(3,true),(4,true)] [(5,false),(6,false)] [(b1,.cells ([.int .i64 3,.int .u64 s0,.int .u64 s1,.int .u64 s2,.int .u64 s3,kv,.int .i64 mn,.int .i64 mx,.bool lz,.int .i64 gr]:List Value).toArray 28 (0,0))]);kernel_rfl;(exact atks);kernel_rfl;intro r' hl')|((with_reducible apply pi_pur);rfl;(exact qwt);(with_reducible apply pu_ldP);rfl;(first|assumption|exact Lent.h1 hl'|exact Lent.h2 hl'|exact Lent.h3 hl');(simp only [cut,List.drop_succ_cons,List.drop_zero,List.take_succ_cons,List.take_zero];rfl);rfl;(refine apk ?_))|((with_reducible apply swo_pur);(with_reducible apply (pu_eqA (E:=23)));exact Tryz.underlying25;kernel_rfl;kernel_rfl;kernel_rfl;kernel_rfl;rfl;rfl;(refine apk ?_))|((with_reducible apply kx_ldP);rfl;(exact atk);(simp only [cut,List.drop_succ_cons,List.drop_zero,List.take_succ_cons,List.take_zero];rfl);rfl;(refine apk ?_))|exact xf|refine aw0 ?_|(refine ap2 ?_ ?_<;>try intro h)|refine aw1 ?_|(refine abx ?_;intro bb)|(refine abz ?_;intro bz)|(refine ahv ?_;intro v' hv')|(refine aac ?_;intro ac cc)|refine aw2 ?_|(refine ap4 ?_ ?_<;>try intro h)|apply True.intro)
 all_goals
  repeat' (first|((with_reducible apply sw_draw (id:=18) 18 [(0,true),(1,true),(2,true),(3,true),(4,true),(5,true),(6,true),(7,true),(8,true),(9,true),(10,true),(11,true),(12,true),(13,true),(14,true),(15,true),(16,true),(17,true)] [(18,false)] [(b1,.cells ([.int .i64 3,.int .u64 s0,.int .u64 s1,.int .u64 s2,.int .u64 s3,kv,.int .i64 mn,.int .i64 mx,.bool lz,.int .i64 gr]:List Value).toArray 28 (0,0))]);kernel_rfl;(exact atks);kernel_rfl;intro r' hl')|((with_reducible apply pi_pur);rfl;(exact qwt);(with_reducible apply pu_ldP);rfl;(first|assumption|exact Lent.h1 hl'|exact Lent.h2 hl'|exact Lent.h3 hl');(simp only [cut,List.drop_succ_cons,List.drop_zero,List.take_succ_cons,List.take_zero];rfl);rfl;(refine apk ?_))|((with_reducible apply pi_pur);rfl;(exact qwt);(with_reducible apply (pu_bldA (T:=25) (z:=[.int .u64 0,.int .u64 0,.int .u64 0,.int .u64 0])));exact Tryz.underlying25;exact ty_size;(refine apk ?_))|((with_reducible apply pi_pur);rfl;(exact qwt);(with_reducible apply (pu_neA (E:=23)));exact Tryz.underlying25;kernel_rfl;kernel_rfl;kernel_rfl;kernel_rfl;rfl;rfl;(refine apk ?_))|exact xf|refine aw0 ?_|(refine ap2 ?_ ?_<;>try intro h)|refine aw1 ?_|(refine abx ?_;intro bb)|(refine abz ?_;intro bz)|(refine ahv ?_;intro v' hv')|(refine aac ?_;intro ac cc)|refine aw2 ?_|(refine ap4 ?_ ?_<;>try intro h)|apply True.intro)
 all_goals
  ((with_reducible apply fp_ret);exact res_1 rfl rfl)
  exact HR.out _ _ _ [] atks ⟨⟨_,rfl,fun hb=>by
   first
    | contradiction
    | (refine ⟨by omega,fun _=>by omega,fun hk=>?_⟩
       first
        | (exfalso;omega)
        | exact HF1.out (by assumption) (by assumption)
        | exact HF2.out (by assumption) (by assumption))⟩,rfl⟩
end Go.Proofs.YteknekiclhnkiaaGreatDoor
