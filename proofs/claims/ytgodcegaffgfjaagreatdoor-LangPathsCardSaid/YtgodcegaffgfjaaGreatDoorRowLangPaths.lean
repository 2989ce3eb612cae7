
/- LangPaths: the law returns true; the tables of unicode and unicode/utf8 are tied to the program's text. -/
import Derived.Test.YtgodcegaffgfjaaGreatDoorCards
import Derived.Test.YtgodcegaffgfjaaGreatDoorTie
import Derived.Test.YtgodcegaffgfjaaGreatDoorLr
import Derived.Test.YtgodcegaffgfjaaGreatDoorLs
import Derived.Test.YtgodcegaffgfjaaGreatDoorAt
import Derived.Test.YtgodcegaffgfjaaGreatDoorRo
import Derived.WalkKit
import Derived.ProofKit
import Derived.OpenShut
import Derived.Deep.DeepHandedRow
import Derived.Deep.DeepWitnessRowRef
import Derived.Lib.LaidIn
import Derived.Lib.LaidU8
import Derived.Great.CaseRows
import Derived.PinnedBridge
namespace Go.Proofs.YtgodcegaffgfjaaGreatDoor.langPaths
open Go.ChangeShapes Go.WideShapes Go.ChangeAt Go.RowKit Go.Lib Sx

theorem own : ownKnob Tryz.prog.godebug = none := by kernel_rfl
theorem paths_any (r : Hp) : Tri Tryz.prog r 3 [] [] fun w H => w = .bool true ∧ H = [] := paths_of r rep_any split_any upper_any refAll_any Ft.apartTx_any
/-- A world for the witness: a block more (the rows of unicode.CaseRanges); the listed variables hold what their initialisers lay. -/
def layV (c : Array Value) : Obj → Obj
  | .cells _ t frozen => .cells c t frozen
  | o => o
noncomputable def laidWorld (os : Os) : World :=
  let w0 := World.holding Tryz.prog os ⟨#[.cells Lib.caseCells5 246], #[], []⟩
  { w0 with heap := ((w0.heap.modify 0 (layV #[.slice (some ⟨(World.settled Tryz.prog os).heap.size, 0, none⟩) 336 336])).modify 2 (layV (Lib.firstTab.map fun z => Value.int .u8 z).toArray)).modify 3 (layV ((List.range 16).flatMap fun i => [Value.int .u8 (Lib.accLo i), Value.int .u8 (Lib.accHi i)]).toArray) }
theorem ctypes : Go.Great.CTypes Tryz.prog 132 246 244 89 21 := ⟨by kernel_rfl, by kernel_rfl, by kernel_rfl, by kernel_rfl, by kernel_rfl, by kernel_rfl, by kernel_rfl, by kernel_rfl, by kernel_rfl⟩
theorem laid_met (os : Os) : laidMet Tryz.prog Rows.langPathsRow.laid ((laidWorld os).forCall (fun _ _ => 0) ⟨#[], #[], []⟩).memory := by
  have h1 : LaidIn Tryz.prog ((laidWorld os).forCall (fun _ _ => 0) ⟨#[], #[], []⟩).memory [("unicode/utf8.acceptRanges", Rows.laid_unicode_utf8_acceptRanges)] [3] :=
    LaidIn.of_run [3] 10 (by kernel_rfl) (by kernel_rfl) (by kernel_rfl) (by kernel_rfl)
  have h2 : LaidIn Tryz.prog ((laidWorld os).forCall (fun _ _ => 0) ⟨#[], #[], []⟩).memory [("unicode.CaseRanges", Rows.laid_unicode_CaseRanges)] [0, (World.settled Tryz.prog default).heap.size] := by
    rw [show Rows.laid_unicode_CaseRanges = Lib.caseData from Go.Pinned.caseRanges_eq]
    exact Go.Great.laidIn_case (tg := 132) (tb := 246) ctypes Lib.caseT (by kernel_rfl) (by kernel_rfl) (of_decide_eq_true (by kernel_rfl)) Lib.rowsWf (by kernel_rfl) (by kernel_rfl) (of_decide_eq_true (by kernel_rfl))
  have h3 : LaidIn Tryz.prog ((laidWorld os).forCall (fun _ _ => 0) ⟨#[], #[], []⟩).memory [("unicode/utf8.first", Rows.laid_unicode_utf8_first)] [2] := by
    rw [show Rows.laid_unicode_utf8_first = Lib.firstData from Go.Pinned.utf8First_eq]
    exact LaidIn.of_run [2] 10 (by kernel_rfl) (by kernel_rfl) (by kernel_rfl) (by kernel_rfl)
  exact ((h1.append h2 (by kernel_rfl)).append h3 (by kernel_rfl)).met
theorem reads (os : Os) {H : Type} (enc : TypeId × Value → H) : ∃ places, DataW.whole enc Tryz.prog ((laidWorld os).forCall (fun _ _ => 0) ⟨#[], #[], []⟩).memory Tryz.f3.params.toList Rows.langPathsSpec.vars false (#[] : Array Value).toList 8 = some ([], [], places) :=
  ⟨[], by kernel_rfl⟩
set_option maxRecDepth 100000 in
theorem contract (H : Type) (enc : TypeId × Value → H) (W : World) (args : Array Value) (ds gs : List (DataW H)) (before : List MemPlace)
    (hW : DataW.Whole enc Tryz.prog Tryz.f3.params.toList Rows.langPathsSpec.vars false W args.toList ds gs before) :
    Calls Tryz.prog 3 args W fun e W' => ∃ v, e = .returned v ∧ Rows.langPathsSpec.post enc Tryz.prog Tryz.f3 false true false false W args v W' := by
  have hW' := hW
  obtain ⟨p, q, hA0, hV, rfl, hfz, hnd⟩ := hW
  have hA : DataW.TrodAll enc Tryz.prog W 0 (fun _ => true) true Tryz.f3.params.toList args.toList ds p := hA0
  rw [Tryz.params3] at hA
  obtain ⟨ha, rfl, rfl⟩ := trodAll_nil hA
  obtain rfl : args = #[] := by cases args; simp_all
  obtain ⟨rfl, rfl⟩ := trodVars_none hV
  refine (paths_any (hpOf W)).below.mono fun e W' ⟨v, H', he, ⟨hv, _⟩, hb⟩ => ?_
  subst hv
  exact ⟨_, he, post_true (by kernel_rfl) rfl (by kernel_rfl) (fun l hl => match l, hl with | [], _ => rfl) (by kernel_rfl : Tryz.f3.resultTypes = #[4]) Tryz.underlying4 hW' hb⟩
set_option maxRecDepth 100000 in
theorem lifted (os : Os) (started : os.Started) (H : Type) (enc : TypeId × Value → H) (F : Stop.Interp) :
    ReturnsInHanded {} Tryz.checked os 3 .any ((OpenSpec.ofChange Rows.langPathsSpec).preRow enc Tryz.prog Tryz.f3 Rows.langPathsRow.domain false Rows.langPathsRow.laid) (((OpenSpec.ofChange Rows.langPathsSpec).at F).post enc Tryz.prog Tryz.f3 false true false false) := by
  obtain ⟨places, hx⟩ := reads os enc
  refine returnsInHanded_of_row (C := Tryz.checked) (s := OpenSpec.ofChange Rows.langPathsSpec) own started (by kernel_rfl) Tryz.func3
    (witness_row_atRef (enc := enc) (C := Tryz.checked) false (laidWorld os) #[] rfl (by kernel_rfl) (by kernel_rfl) (by kernel_rfl)
      (OpenSpec.preRow_of_cond 8 hx (by kernel_rfl) (fun k hk => by cases hk) (by kernel_rfl) (laid_met os))) ?_
  intro W base args ds gs before _ hW _ _ _ _ _ _
  exact contract H enc W args ds gs before hW
theorem said : Rows.LangPathsSaid :=
  OpenClaim.holds_of_cond 3 Tryz.f3 rfl rfl rfl rfl rfl rfl rfl ⟨rfl, rfl, rfl, rfl, rfl⟩ rfl rfl rfl rfl rfl (by kernel_rfl) Tryz.func3 (by kernel_rfl)
    (of_decide_eq_true (by kernel_rfl)) (by unfold Func.isWrapper; first | (rw [if_pos (by decide +kernel)]; kernel_rfl) | (rw [if_neg (by decide +kernel)]; exact ⟨rfl, rfl⟩))
    (fun os started H enc _ F => by rw [OpenClaim.pre_eq_preRow]; exact lifted os started H enc F)
theorem plain (f : FuncId) (fn : Func) (hf : Tryz.pinned.checked.prog.funcNamed "mudlark/mudlarklaw06.LangPaths" = some f) (hfn : Tryz.pinned.checked.prog.funcs[f]? = some fn) :
    false = Tryz.pinned.checked.prog.looks [] ∧ ∀ (j : Nat) t, fn.params[j]? = some t → Tryz.pinned.checked.prog.wantsStandIn t = false := by
  obtain rfl : f = 3 := Option.some.inj ((show Tryz.prog.funcNamed "mudlark/mudlarklaw06.LangPaths" = some 3 by kernel_rfl).symm.trans hf) |>.symm
  obtain rfl : fn = Tryz.f3 := (Option.some.inj (Tryz.func3.symm.trans hfn)).symm
  refine ⟨by kernel_rfl, fun j t ht => ?_⟩
  rw [Tryz.params3] at ht
  simp at ht
theorem proved : Rows.LangPathsCardSaid :=
  Claim7.holds_tied_plain_at .later [] _ _ _ _ said (fun _ h => by cases h) (by kernel_rfl) (fun _ h => by cases h) langPaths_row_tie rfl ⟨rfl, rfl⟩ (by kernel_rfl) rfl plain (by kernel_rfl)
end Go.Proofs.YtgodcegaffgfjaaGreatDoor.langPaths
