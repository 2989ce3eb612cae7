
/- KnowRuns: for every input the law returns true, and the input reads as it did; the tables of math/bits and internal/strconv are tied to the program's text. -/
import Derived.Test.YtdccjfabdfgomaaGreatDoorCards
import Derived.Test.YtdccjfabdfgomaaGreatDoorTie
import Derived.Test.YtdccjfabdfgomaaGreatDoorPc
import Derived.Test.YtdccjfabdfgomaaGreatDoorRo
import Derived.WalkKit
import Derived.ProofKit
import Derived.OpenShut
import Derived.Deep.DeepHandedRow
import Derived.Lib.LaidTab
namespace Go.Proofs.YtdccjfabdfgomaaGreatDoor.knowRuns
open Go.ChangeShapes Go.WideShapes Go.ChangeAt Go.RowKit Sx

theorem own : ownKnob Tryz.prog.godebug = none := by kernel_rfl
def t32 : List Int := 0 :: 1 :: 28 :: 2 :: 29 :: 14 :: 24 :: 3 :: 30 :: 22 :: 20 :: 15 :: 25 :: 17 :: 4 :: 8 :: 31 :: 27 :: 13 :: 23 :: 21 :: 19 :: 16 :: 7 :: 26 :: 12 :: 18 :: 6 :: 11 :: 5 :: 10 :: 9 :: []
def t64 : List Int := 0 :: 1 :: 56 :: 2 :: 57 :: 49 :: 28 :: 3 :: 61 :: 58 :: 42 :: 50 :: 38 :: 29 :: 17 :: 4 :: 62 :: 47 :: 59 :: 36 :: 45 :: 43 :: 51 :: 22 :: 53 :: 39 :: 33 :: 30 :: 24 :: 18 :: 12 :: 5 :: 63 :: 55 :: 48 :: 27 :: 60 :: 41 :: 37 :: 16 :: 46 :: 35 :: 44 :: 21 :: 52 :: 32 :: 23 :: 11 :: 54 :: 26 :: 40 :: 15 :: 34 :: 20 :: 31 :: 10 :: 25 :: 14 :: 19 :: 9 :: 13 :: 8 :: 7 :: 6 :: []
def p10 : List Int := 1 :: 10 :: 100 :: 1000 :: 10000 :: 100000 :: 1000000 :: 10000000 :: 100000000 :: 1000000000 :: 10000000000 :: 100000000000 :: 1000000000000 :: 10000000000000 :: 100000000000000 :: 1000000000000000 :: 10000000000000000 :: 100000000000000000 :: 1000000000000000000 :: 10000000000000000000 :: []
theorem gTab : Tryz.prog.globalNamed "math/bits.deBruijn64tab" = some 3 := by kernel_rfl
theorem gTabType : (Tryz.prog.globals[3]?).map (·.type) = some 183 := by kernel_rfl
theorem cellsA : Tryz.prog.cellsOf 183 = 64 := by kernel_rfl
theorem cellsE : Tryz.prog.cellsOf 5 = 1 := by kernel_rfl
/-- What the row's list gives. -/
theorem table {W : World} (h : laidMetH Tryz.prog Rows.knowRunsRow.laid W) : TabR (hpOf W) := by
  have h' : laidMet Tryz.prog Rows.knowRunsRow.laid W := h
  obtain ⟨ps, ⟨_, _, _, _, _, _, _, _, _, _, ⟨g', t', cs, fuel, p, q, hg', ht', hvar, hd, _, _⟩, _⟩, _⟩ := h'
  obtain rfl := Option.some.inj (gTab.symm.trans hg')
  obtain rfl := Option.some.inj (gTabType.symm.trans ht')
  have hc : cs.toList = t64.map fun z => Value.int .u8 z := Lib.cells_of_tab Tryz.underlying183 Tryz.underlying5 cellsE cellsA (zs := t64) hd
  have h4 := World.var?_cell gTab hvar 15
  rw [← Array.getElem?_toList, hc] at h4
  have h5 : W.cell? ⟨3, 15, none⟩ = some (.int .u8 4) := h4
  unfold World.cell? at h5
  split at h5
  · rename_i cc E fz hb
    exact ⟨cc, E, fz, hb, by simpa using h5⟩
  · cases h5
/-- A world for the witness: the listed variables hold what their initialisers lay. -/
def layV (c : Array Value) : Obj → Obj
  | .cells _ t frozen => .cells c t frozen
  | o => o
noncomputable def laidWorld (os : Os) : World :=
  { World.holding Tryz.prog os ⟨#[], #[], []⟩ with heap := (((World.holding Tryz.prog os ⟨#[], #[], []⟩).heap.modify 2 (layV (t32.map fun z => Value.int .u8 z).toArray)).modify 3 (layV (t64.map fun z => Value.int .u8 z).toArray)).modify 1 (layV (p10.map fun z => Value.int .u64 z).toArray) }
theorem laid_met (os : Os) : laidMet Tryz.prog Rows.knowRunsRow.laid ((laidWorld os).forCall (fun _ _ => 0) ⟨#[], #[.string ByteArray.empty], []⟩).memory :=
  laidMet_of_run' 8 (by kernel_rfl) (by kernel_rfl)
theorem reads (os : Os) {H : Type} (enc : TypeId × Value → H) : ∃ places, DataW.whole enc Tryz.prog ((laidWorld os).forCall (fun _ _ => 0) ⟨#[], #[.string ByteArray.empty], []⟩).memory Tryz.f3.params.toList Rows.knowRunsSpec.vars false #[Value.string ByteArray.empty].toList 8 = some ([.lit (.string [])], [], places) :=
  ⟨[], by kernel_rfl⟩
set_option maxRecDepth 100000 in
theorem contract (H : Type) (enc : TypeId × Value → H) (W : World) (base : Nat) (args : Array Value) (ds gs : List (DataW H)) (before : List MemPlace)
    (hval : ∀ (j : Nat) t v, Tryz.f3.params[j]? = some t → args[j]? = some v → Value.okWide Tryz.prog W .any base t v)
    (hW : DataW.Whole enc Tryz.prog Tryz.f3.params.toList Rows.knowRunsSpec.vars false W args.toList ds gs before) (hsz : (DataW.weightsEach Tryz.prog (Tryz.f3.params.toList ++ Rows.knowRunsSpec.plain.varTypes Tryz.prog) (ds ++ gs)).all (· ≤ reachBytes) = true) (hL : laidMetH Tryz.prog Rows.knowRunsRow.laid W) :
    Calls Tryz.prog 3 args W fun e W' => ∃ v, e = .returned v ∧ Rows.knowRunsSpec.post enc Tryz.prog Tryz.f3 false true false false W args v W' := by
  have hT := table hL
  have hW' := hW
  obtain ⟨p, q, hA0, hV, rfl, hfz, hnd⟩ := hW
  have hA : DataW.TrodAll enc Tryz.prog W 0 (fun _ => true) true Tryz.f3.params.toList args.toList ds p := hA0
  rw [Tryz.params3] at hA hval hsz
  obtain ⟨v0, vs0, d0, ds0, p0, q0, hargs, rfl, rfl, h0, r0⟩ := trodAll_cons hA
  obtain ⟨rfl, rfl, rfl⟩ := trodAll_nil r0
  obtain rfl : args = #[v0] := by cases args; simp_all
  obtain ⟨rfl, rfl⟩ := trodVars_none hV
  obtain ⟨s0, rfl⟩ := okWide_string Tryz.underlying9 (hval 0 9 v0 rfl rfl)
  obtain ⟨k0, h0⟩ := h0
  obtain ⟨l0, e0, b0⟩ := op_str h0 (wt_each hsz (j := 0) rfl rfl)
  obtain rfl : s0 = bs l0 := by injection e0 with e; injection e
  clear hA0 hval
  refine (knowRuns_any (hpOf W) hT l0 b0).below.mono fun e W' ⟨v, H', he, ⟨hv, _⟩, hb⟩ => ?_
  subst hv
  exact ⟨_, he, post_true (by kernel_rfl) rfl (by kernel_rfl) (fun l hl => match l, hl with | [_], _ => rfl) (by kernel_rfl : Tryz.f3.resultTypes = #[4]) Tryz.underlying4 hW' hb⟩
set_option maxRecDepth 100000 in
theorem lifted (os : Os) (started : os.Started) (H : Type) (enc : TypeId × Value → H) (F : Stop.Interp) :
    ReturnsInHanded {} Tryz.checked os 3 .any ((OpenSpec.ofChange Rows.knowRunsSpec).preRow enc Tryz.prog Tryz.f3 Rows.knowRunsRow.domain false Rows.knowRunsRow.laid) (((OpenSpec.ofChange Rows.knowRunsSpec).at F).post enc Tryz.prog Tryz.f3 false true false false) := by
  obtain ⟨places, hx⟩ := reads os enc
  refine returnsInHanded_of_row (C := Tryz.checked) (s := OpenSpec.ofChange Rows.knowRunsSpec) own started (by kernel_rfl) Tryz.func3
    (witness_row_at (enc := enc) (C := Tryz.checked) false (laidWorld os) #[.string ByteArray.empty] rfl (by kernel_rfl) (by kernel_rfl) (by kernel_rfl)
      (OpenSpec.preRow_of_cond 8 hx (by kernel_rfl) (fun k hk => by cases hk) (by kernel_rfl) (laid_met os))) ?_
  intro W base args ds gs before hval hW _ _ hsz hL _ _
  exact contract H enc W base args ds gs before hval hW hsz hL
theorem said : Rows.KnowRunsSaid :=
  OpenClaim.holds_of_cond 3 Tryz.f3 rfl rfl rfl rfl rfl rfl rfl ⟨rfl, rfl, rfl, rfl, rfl⟩ rfl rfl rfl rfl rfl (by kernel_rfl) Tryz.func3 (by kernel_rfl)
    (of_decide_eq_true (by kernel_rfl)) (by unfold Func.isWrapper; first | (rw [if_pos (by decide +kernel)]; kernel_rfl) | (rw [if_neg (by decide +kernel)]; exact ⟨rfl, rfl⟩))
    (fun os started H enc _ F => by rw [OpenClaim.pre_eq_preRow]; exact lifted os started H enc F)
theorem plain (f : FuncId) (fn : Func) (hf : Tryz.pinned.checked.prog.funcNamed "mudlark/mudlarklaw17.KnowRuns" = some f) (hfn : Tryz.pinned.checked.prog.funcs[f]? = some fn) :
    false = Tryz.pinned.checked.prog.looks [] ∧ ∀ (j : Nat) t, fn.params[j]? = some t → Tryz.pinned.checked.prog.wantsStandIn t = false := by
  obtain rfl : f = 3 := Option.some.inj ((show Tryz.prog.funcNamed "mudlark/mudlarklaw17.KnowRuns" = some 3 by kernel_rfl).symm.trans hf) |>.symm
  obtain rfl : fn = Tryz.f3 := (Option.some.inj (Tryz.func3.symm.trans hfn)).symm
  refine ⟨by kernel_rfl, fun j t ht => ?_⟩
  rw [Tryz.params3] at ht
  have hm : t = 9 := by
    have := Array.mem_of_getElem? ht
    simpa using this
  subst hm
  exact (show Tryz.prog.wantsStandIn 9 = false by kernel_rfl)
theorem proved : Rows.KnowRunsCardSaid :=
  Claim7.holds_tied_plain_at .later [] _ _ _ _ said (fun _ h => by cases h) (by kernel_rfl) (fun _ h => by cases h) knowRuns_row_tie rfl ⟨rfl, rfl⟩ (by kernel_rfl) rfl plain (by kernel_rfl)
end Go.Proofs.YtdccjfabdfgomaaGreatDoor.knowRuns
