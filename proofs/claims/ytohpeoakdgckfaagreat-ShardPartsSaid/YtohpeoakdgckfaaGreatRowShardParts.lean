/- ShardParts: for every input the law returns true, and the input reads as it did. -/
import Derived.Test.YtohpeoakdgckfaaGreatRows
import Derived.Test.YtohpeoakdgckfaaGreatPv2
import Derived.Test.YtohpeoakdgckfaaGreatRo
set_option maxRecDepth 100000
namespace Go.Proofs.YtohpeoakdgckfaaGreat.shardParts
open Go.ChangeShapes Go.WideShapes Go.ChangeAt Go.RowKit Sx
theorem own:ownKnob Tryz.prog.godebug=none:=by kernel_rfl
theorem lifted (os:Os) (started:os.Started) (H:Type) (enc:TypeId × Value->H) :
 ReturnsInHanded {} Tryz.checked os 5 .any (Rows.shardPartsSpec.pre6 enc Tryz.prog Tryz.f5 Rows.shardPartsRow.domain false) (Rows.shardPartsSpec.post enc Tryz.prog Tryz.f5 false true false false):=by
 refine returnsInHanded_of_change_sized (C:=Tryz.checked) own started (by kernel_rfl) Tryz.func5
  (ChangeSpec.witness6 (enc:=enc) (C:=Tryz.checked) false ⟨#[],#[],[]⟩ 8 (by kernel_rfl) (by kernel_rfl) (by kernel_rfl) (by kernel_rfl)) ?_
 intro W base args ds gs before hval0 hW hcnd hsz0 _
 have hval : ∀ (j:Nat) t v,Tryz.f5.params[j]?=some t->args[j]?=some v->Value.okWide Tryz.prog W .any base t v:=hval0
 have hW':=hW
 obtain ⟨p,q,hA0,hV,rfl,hfz,hnd⟩:=hW
 have hA:DataW.TrodAll enc Tryz.prog W 0 (fun _=>true) true Tryz.f5.params.toList args.toList ds p:=hA0
 have hsz:(DataW.weightsEach Tryz.prog (Tryz.f5.params.toList++Rows.shardPartsSpec.plain.varTypes Tryz.prog) (ds++gs)).all (· <= reachBytes)=true:=hsz0
 rw [Tryz.params5] at hA hval hsz
 obtain ⟨hargs,rfl,rfl⟩:=trodAll_nil hA
 obtain rfl:args = #[]:=by cases args;simp_all
 clear hA0 hval0
 refine (zas _).below.mono fun e W' ⟨v,H',he,⟨hv,_⟩,hb⟩=>?_
 subst hv
 exact ⟨_,he,zl9 (by kernel_rfl) rfl (by kernel_rfl) (fun l hl=>match l,hl with | [],_=>rfl) (by kernel_rfl:Tryz.f5.resultTypes = #[4]) Tryz.underlying4 hW' hb⟩
theorem over:Rows.shardPartsRow.holds Tryz.pinned (OpenSpec.ofChange Rows.shardPartsSpec) :=
 OpenClaim.holds_of_wide 5 Tryz.f5 rfl rfl rfl rfl rfl rfl rfl ⟨rfl,rfl,rfl,rfl,rfl⟩ rfl rfl rfl rfl rfl (by kernel_rfl) Tryz.func5 (by kernel_rfl)
  (of_decide_eq_true (by kernel_rfl)) (by unfold Func.isWrapper;first|(rw [if_pos (by decide +kernel)];kernel_rfl)|(rw [if_neg (by decide +kernel)];exact ⟨rfl,rfl⟩))
  (fun os started H enc _=>lifted os started H enc)
theorem proved:Rows.ShardPartsSaid :=
 over
end Go.Proofs.YtohpeoakdgckfaaGreat.shardParts
