/- ShardOpens: for every input the law returns true, and the input reads as it did. -/
import Derived.Test.YtohpeoakdgckfaaGreatRows
import Derived.Test.YtohpeoakdgckfaaGreatLso
import Derived.Test.YtohpeoakdgckfaaGreatRo
set_option maxRecDepth 100000
namespace Go.Proofs.YtohpeoakdgckfaaGreat.shardOpens
open Go.ChangeShapes Go.WideShapes Go.ChangeAt Go.RowKit Sx
theorem own:ownKnob Tryz.prog.godebug=none:=by kernel_rfl
theorem lifted (os:Os) (started:os.Started) (H:Type) (enc:TypeId × Value->H) :
 ReturnsInHanded {} Tryz.checked os 4 .any (Rows.shardOpensSpec.pre6 enc Tryz.prog Tryz.f4 Rows.shardOpensRow.domain false) (Rows.shardOpensSpec.post enc Tryz.prog Tryz.f4 false true false false):=by
 refine returnsInHanded_of_change_sized (C:=Tryz.checked) own started (by kernel_rfl) Tryz.func4
  (ChangeSpec.witness6 (enc:=enc) (C:=Tryz.checked) false ⟨#[],#[.slice none 0 0,.string ByteArray.empty],[]⟩ 8 (by kernel_rfl) (by kernel_rfl) (by kernel_rfl) (by kernel_rfl)) ?_
 intro W base args ds gs before hval0 hW hcnd hsz0 _
 have hval : ∀ (j:Nat) t v,Tryz.f4.params[j]?=some t->args[j]?=some v->Value.okWide Tryz.prog W .any base t v:=hval0
 have hW':=hW
 obtain ⟨p,q,hA0,hV,rfl,hfz,hnd⟩:=hW
 have hA:DataW.TrodAll enc Tryz.prog W 0 (fun _=>true) true Tryz.f4.params.toList args.toList ds p:=hA0
 have hsz:(DataW.weightsEach Tryz.prog (Tryz.f4.params.toList++Rows.shardOpensSpec.plain.varTypes Tryz.prog) (ds++gs)).all (· <= reachBytes)=true:=hsz0
 rw [Tryz.params4] at hA hval hsz
 obtain ⟨v0,vs0,d0,ds0,p0,q0,hargs,rfl,rfl,h0,r0⟩:=trodAll_cons hA
 obtain ⟨v1,vs1,d1,ds1,p1,q1,rfl,rfl,rfl,h1,r1⟩:=trodAll_cons r0
 obtain ⟨rfl,rfl,rfl⟩:=trodAll_nil r1
 obtain rfl:args = #[v0,v1]:=by cases args;simp_all
 obtain ⟨a0,n0,c0,rfl⟩:=okWide_slice Tryz.underlying26 (hval 0 26 v0 rfl rfl)
 obtain ⟨k0,h0⟩:=h0
 obtain ⟨w0,l0,e0,g0,b0⟩:=op_bytes h0 (wt_each hsz (j:=0) rfl rfl)
 obtain rfl:Value.slice a0 n0 c0=w0:=by injection e0
 obtain ⟨s1,rfl⟩:=okWide_string Tryz.underlying9 (hval 1 9 v1 rfl rfl)
 obtain ⟨k1,h1⟩:=h1
 obtain ⟨l1,e1,b1⟩:=op_str h1 (wt_each hsz (j:=1) rfl rfl)
 obtain rfl:s1=bs l1:=by injection e1 with e;injection e
 clear hA0 hval0
 refine (shardOpens_any _ _ l0 l1 g0 (by have:=b0;omega)).below.mono fun e W' ⟨v,H',he,⟨hv,_⟩,hb⟩=>?_
 subst hv
 exact ⟨_,he,post_true (by kernel_rfl) rfl (by kernel_rfl) (fun l hl=>match l,hl with | [_,_],_=>rfl) (by kernel_rfl:Tryz.f4.resultTypes = #[4]) Tryz.underlying4 hW' hb⟩
theorem over:Rows.shardOpensRow.holds Tryz.pinned (OpenSpec.ofChange Rows.shardOpensSpec) :=
 OpenClaim.holds_of_wide 4 Tryz.f4 rfl rfl rfl rfl rfl rfl rfl ⟨rfl,rfl,rfl,rfl,rfl⟩ rfl rfl rfl rfl rfl (by kernel_rfl) Tryz.func4 (by kernel_rfl)
  (of_decide_eq_true (by kernel_rfl)) (by unfold Func.isWrapper;first|(rw [if_pos (by decide +kernel)];kernel_rfl)|(rw [if_neg (by decide +kernel)];exact ⟨rfl,rfl⟩))
  (fun os started H enc _=>lifted os started H enc)
theorem proved:Rows.ShardOpensSaid :=
 over
end Go.Proofs.YtohpeoakdgckfaaGreat.shardOpens
