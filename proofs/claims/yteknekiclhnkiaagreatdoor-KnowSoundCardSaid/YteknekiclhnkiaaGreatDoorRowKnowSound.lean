/- KnowSound: for every input the law returns true, and the input reads as it did; the tables of math/bits and internal/strconv are tied to the program's text. -/
import Derived.Test.YteknekiclhnkiaaGreatDoorCards
import Derived.Test.YteknekiclhnkiaaGreatDoorTie
import Derived.Test.YteknekiclhnkiaaGreatDoorZm
import Derived.Test.YteknekiclhnkiaaGreatDoorZo
import Derived.WalkKit
import Derived.ProofKit
import Derived.OpenShut
import Derived.Deep.DeepHandedRow
import Derived.Lib.LaidTab
set_option maxRecDepth 100000
namespace Go.Proofs.YteknekiclhnkiaaGreatDoor.knowSound
open Go.ChangeShapes Go.WideShapes Go.ChangeAt Go.RowKit Sx
theorem own:ownKnob Tryz.prog.godebug=none:=by kernel_rfl
def t32:List Int:=0::1::28::2::29::14::24::3::30::22::20::15::25::17::4::8::31::27::13::23::21::19::16::7::26::12::18::6::11::5::10::9::[]
def t64:List Int:=0::1::56::2::57::49::28::3::61::58::42::50::38::29::17::4::62::47::59::36::45::43::51::22::53::39::33::30::24::18::12::5::63::55::48::27::60::41::37::16::46::35::44::21::52::32::23::11::54::26::40::15::34::20::31::10::25::14::19::9::13::8::7::6::[]
def p10:List Int:=1::10::100::1000::10000::100000::1000000::10000000::100000000::1000000000::10000000000::100000000000::1000000000000::10000000000000::100000000000000::1000000000000000::10000000000000000::100000000000000000::1000000000000000000::10000000000000000000::[]
theorem gTab : Tryz.prog.globalNamed "math/bits.deBruijn64tab" = some 0 := by kernel_rfl
theorem gTabType:(Tryz.prog.globals[0]?).map (·.type)=some 146:=by kernel_rfl
theorem cellsA:Tryz.prog.cellsOf 146=64:=by kernel_rfl
theorem cellsE:Tryz.prog.cellsOf 5=1:=by kernel_rfl
theorem t64_at : ∀ k,k<64->t64[k]?=some ((Lib.deBruijn64tab.getD k 0:Nat):Int):=by decide +kernel
theorem table {W:World} (h:laidMetH Tryz.prog Rows.knowSoundRow.laid W):TabF (hpOf W):=by
 have h':laidMet Tryz.prog Rows.knowSoundRow.laid W:=h
 obtain ⟨ps,⟨_,_,_,_,_,_,_,_,_,_,⟨g',t',cs,fuel,p,q,hg',ht',hvar,hd,_,_⟩,_⟩,_⟩:=h'
 obtain rfl:=Option.some.inj (gTab.symm.trans hg')
 obtain rfl:=Option.some.inj (gTabType.symm.trans ht')
 have hc:cs.toList=t64.map fun z=>Value.int .u8 z:=Lib.cells_of_tab Tryz.underlying146 Tryz.underlying5 cellsE cellsA (zs:=t64) hd
 have hat : ∀ k,W.cell? ⟨0,k,none⟩=(t64.map fun z=>Value.int .u8 z)[k]?:=fun k=>by
  have h4:=World.var?_cell gTab hvar k
  rw [← Array.getElem?_toList,hc] at h4
  exact h4
 have h5:W.cell? ⟨0,15,none⟩=some (.int .u8 4):=hat 15
 obtain ⟨cc,E,fz,hb⟩ : ∃ cc E fz,W.heap[0]?=some (.cells cc E fz):=by
  unfold World.cell? at h5
  split at h5
  · rename_i cc E fz hb
    exact ⟨cc,E,fz,hb⟩
  · cases h5
 refine ⟨cc,E,fz,hb,fun k hk=>?_⟩
 have h6:=hat k
 unfold World.cell? at h6
 rw [hb] at h6
 have h7:t64[k]?=some ((Lib.deBruijn64tab.getD k 0:Nat):Int):=t64_at k hk
 rw [List.getElem?_map,h7] at h6
 simpa using h6
def layV (c:Array Value):Obj->Obj
 | .cells _ t frozen=> .cells c t frozen
 | o=>o
noncomputable def laidWorld (os:Os):World :=
 { World.holding Tryz.prog os ⟨#[],#[],[]⟩ with heap:=(((World.holding Tryz.prog os ⟨#[],#[],[]⟩).heap.modify 3 (layV (t32.map fun z=>Value.int .u8 z).toArray)).modify 0 (layV (t64.map fun z=>Value.int .u8 z).toArray)).modify 2 (layV (p10.map fun z=>Value.int .u64 z).toArray) }
theorem laid_met (os:Os):laidMet Tryz.prog Rows.knowSoundRow.laid ((laidWorld os).forCall (fun _ _=>0) ⟨#[],#[.agg #[.int .i64 0,.int .u64 0,.int .u64 0,.int .u64 0,.int .u64 0,.slice none 0 0,.int .i64 0,.int .i64 0,.bool false,.int .i64 0],.slice none 0 0],[]⟩).memory :=
 laidMet_of_run' 8 (by kernel_rfl) (by kernel_rfl)
theorem reads (os:Os) {H:Type} (enc:TypeId × Value->H) : ∃ places,DataW.whole enc Tryz.prog ((laidWorld os).forCall (fun _ _=>0) ⟨#[],#[.agg #[.int .i64 0,.int .u64 0,.int .u64 0,.int .u64 0,.int .u64 0,.slice none 0 0,.int .i64 0,.int .i64 0,.bool false,.int .i64 0],.slice none 0 0],[]⟩).memory Tryz.f3.params.toList Rows.knowSoundSpec.vars false #[Value.agg #[.int .i64 0,.int .u64 0,.int .u64 0,.int .u64 0,.int .u64 0,.slice none 0 0,.int .i64 0,.int .i64 0,.bool false,.int .i64 0],.slice none 0 0].toList 8=some ([.agg [.lit (.int .i64 0),.agg [.lit (.int .u64 0),.lit (.int .u64 0),.lit (.int .u64 0),.lit (.int .u64 0)],.nil,.lit (.int .i64 0),.lit (.int .i64 0),.lit (.bool false),.lit (.int .i64 0)],.nil],[],places) :=
 ⟨[],by kernel_rfl⟩
theorem contract (H:Type) (enc:TypeId × Value->H) (W:World) (base:Nat) (args:Array Value) (ds gs:List (DataW H)) (before:List MemPlace)
 (hval : ∀ (j:Nat) t v,Tryz.f3.params[j]?=some t->args[j]?=some v->Value.okWide Tryz.prog W .any base t v)
 (hW:DataW.Whole enc Tryz.prog Tryz.f3.params.toList Rows.knowSoundSpec.vars false W args.toList ds gs before) (hsz:(DataW.weightsEach Tryz.prog (Tryz.f3.params.toList++Rows.knowSoundSpec.plain.varTypes Tryz.prog) (ds++gs)).all (· <= reachBytes)=true) (hL:laidMetH Tryz.prog Rows.knowSoundRow.laid W) :
 Calls Tryz.prog 3 args W fun e W' => ∃ v,e = .returned v/\Rows.knowSoundSpec.post enc Tryz.prog Tryz.f3 false true false false W args v W':=by
 have hT:=table hL
 have hW':=hW
 obtain ⟨p,q,hA0,hV,rfl,hfz,hnd⟩:=hW
 have hA:DataW.TrodAll enc Tryz.prog W 0 (fun _=>true) true Tryz.f3.params.toList args.toList ds p:=hA0
 rw [Tryz.params3] at hA hval hsz
 obtain ⟨v0,vs0,d0,ds0,p0,q0,hargs,rfl,rfl,h0,r0⟩:=trodAll_cons hA
 obtain ⟨v1,vs1,d1,ds1,p1,q1,rfl,rfl,rfl,h1,r1⟩:=trodAll_cons r0
 obtain ⟨rfl,rfl,rfl⟩:=trodAll_nil r1
 obtain rfl:args = #[v0,v1]:=by cases args;simp_all
 obtain ⟨rfl,rfl⟩:=trodVars_none hV
 obtain ⟨a0,rfl,_⟩:=okWide_struct Tryz.underlying28 (hval 0 28 v0 rfl rfl)
 obtain ⟨k0,h0⟩:=h0
 obtain ⟨w0,e0,g0⟩:=op_nodeB _ h0 (Nat.le_refl _)
 have e0:a0=(encN w0).toArray:=by rw [← e0];simp [Value.cells]
 subst e0
 obtain ⟨a1,n1,c1,rfl⟩:=okWide_slice Tryz.underlying29 (hval 1 29 v1 rfl rfl)
 obtain ⟨k1,h1⟩:=h1
 obtain ⟨w1,l1,e1,g1,b1⟩:=op_bytes h1 (wt_each hsz (j:=1) rfl rfl)
 obtain rfl:Value.slice a1 n1 c1=w1:=by injection e1
 clear hA0 hval
 obtain ⟨k,s0,s1,s2,s3,kv,l,mn,mx,lz,gr⟩:=w0
 refine (knowSound_of (hpOf W) hT k s0 s1 s2 s3 kv l mn mx lz gr g0 _ l1 g1 rfl).below.mono fun e W' ⟨v,H',he,⟨hv,_⟩,hb⟩=>?_
 subst hv
 exact ⟨_,he,post_true (by kernel_rfl) rfl (by kernel_rfl) (fun l hl=>match l,hl with | [_,_],_=>rfl) (by kernel_rfl:Tryz.f3.resultTypes = #[4]) Tryz.underlying4 hW' hb⟩
theorem lifted (os:Os) (started:os.Started) (H:Type) (enc:TypeId × Value->H) (F:Stop.Interp) :
 ReturnsInHanded {} Tryz.checked os 3 .any ((OpenSpec.ofChange Rows.knowSoundSpec).preRow enc Tryz.prog Tryz.f3 Rows.knowSoundRow.domain false Rows.knowSoundRow.laid) (((OpenSpec.ofChange Rows.knowSoundSpec).at F).post enc Tryz.prog Tryz.f3 false true false false):=by
 obtain ⟨places,hx⟩:=reads os enc
 refine returnsInHanded_of_row (C:=Tryz.checked) (s:=OpenSpec.ofChange Rows.knowSoundSpec) own started (by kernel_rfl) Tryz.func3
  (witness_row_at (enc:=enc) (C:=Tryz.checked) false (laidWorld os) #[.agg #[.int .i64 0,.int .u64 0,.int .u64 0,.int .u64 0,.int .u64 0,.slice none 0 0,.int .i64 0,.int .i64 0,.bool false,.int .i64 0],.slice none 0 0] rfl (by kernel_rfl) (by kernel_rfl) (by kernel_rfl)
    (OpenSpec.preRow_of_cond 8 hx (by kernel_rfl) (fun k hk=>by cases hk) (by kernel_rfl) (laid_met os))) ?_
 intro W base args ds gs before hval hW _ _ hsz hL _ _
 exact contract H enc W base args ds gs before hval hW hsz hL
theorem said:Rows.KnowSoundSaid :=
 OpenClaim.holds_of_cond 3 Tryz.f3 rfl rfl rfl rfl rfl rfl rfl ⟨rfl,rfl,rfl,rfl,rfl⟩ rfl rfl rfl rfl rfl (by kernel_rfl) Tryz.func3 (by kernel_rfl)
  (of_decide_eq_true (by kernel_rfl)) (by unfold Func.isWrapper;first|(rw [if_pos (by decide +kernel)];kernel_rfl)|(rw [if_neg (by decide +kernel)];exact ⟨rfl,rfl⟩))
  (fun os started H enc _ F=>by rw [OpenClaim.pre_eq_preRow];exact lifted os started H enc F)
theorem plain (f : FuncId) (fn : Func) (hf : Tryz.pinned.checked.prog.funcNamed "mudlark/mudlarklaw17.KnowSound" = some f) (hfn : Tryz.pinned.checked.prog.funcs[f]? = some fn) :
 false=Tryz.pinned.checked.prog.looks [] /\ ∀ (j:Nat) t,fn.params[j]?=some t->Tryz.pinned.checked.prog.wantsStandIn t=false:=by
 obtain rfl : f = 3 := Option.some.inj ((show Tryz.prog.funcNamed "mudlark/mudlarklaw17.KnowSound" = some 3 by kernel_rfl).symm.trans hf) |>.symm
 obtain rfl:fn=Tryz.f3:=(Option.some.inj (Tryz.func3.symm.trans hfn)).symm
 refine ⟨by kernel_rfl,fun j t ht=>?_⟩
 rw [Tryz.params3] at ht
 have hm:t=28\/t=29:=by
  have:=Array.mem_of_getElem? ht
  simpa using this
 rcases hm with rfl|rfl
 · exact (show Tryz.prog.wantsStandIn 28=false by kernel_rfl)
 · exact (show Tryz.prog.wantsStandIn 29=false by kernel_rfl)
theorem proved:Rows.KnowSoundCardSaid :=
 Claim7.holds_tied_plain_at .later [] _ _ _ _ said (fun _ h=>by cases h) (by kernel_rfl) (fun _ h=>by cases h) knowSound_row_tie rfl ⟨rfl,rfl⟩ (by kernel_rfl) rfl plain (by kernel_rfl)
end Go.Proofs.YteknekiclhnkiaaGreatDoor.knowSound
