
/- QueryOrder, where what it reads is of bulk at most 1048576: for every input the law returns true, and the input reads as it did; the tables of math/bits and internal/strconv are tied to the program's text. -/
import Derived.Test.YtgodcegaffgfjaaDoorCards
import Derived.Test.YtgodcegaffgfjaaDoorTie
import Derived.Test.YtgodcegaffgfjaaDoorVu
import Derived.Test.YtgodcegaffgfjaaDoorVr
import Derived.WalkKit
import Derived.ProofKit
import Derived.OpenShut
import Derived.Deep.DeepHandedRow
import Derived.Lib.LaidTab
namespace Go.Proofs.YtgodcegaffgfjaaDoor.queryOrder
open Go.ChangeShapes Go.WideShapes Go.ChangeAt Go.RowKit Sx

theorem own : ownKnob Tryd.prog.godebug = none := by kernel_rfl
def t32 : List Int := 0 :: 1 :: 28 :: 2 :: 29 :: 14 :: 24 :: 3 :: 30 :: 22 :: 20 :: 15 :: 25 :: 17 :: 4 :: 8 :: 31 :: 27 :: 13 :: 23 :: 21 :: 19 :: 16 :: 7 :: 26 :: 12 :: 18 :: 6 :: 11 :: 5 :: 10 :: 9 :: []
def t64 : List Int := 0 :: 1 :: 56 :: 2 :: 57 :: 49 :: 28 :: 3 :: 61 :: 58 :: 42 :: 50 :: 38 :: 29 :: 17 :: 4 :: 62 :: 47 :: 59 :: 36 :: 45 :: 43 :: 51 :: 22 :: 53 :: 39 :: 33 :: 30 :: 24 :: 18 :: 12 :: 5 :: 63 :: 55 :: 48 :: 27 :: 60 :: 41 :: 37 :: 16 :: 46 :: 35 :: 44 :: 21 :: 52 :: 32 :: 23 :: 11 :: 54 :: 26 :: 40 :: 15 :: 34 :: 20 :: 31 :: 10 :: 25 :: 14 :: 19 :: 9 :: 13 :: 8 :: 7 :: 6 :: []
def p10 : List Int := 1 :: 10 :: 100 :: 1000 :: 10000 :: 100000 :: 1000000 :: 10000000 :: 100000000 :: 1000000000 :: 10000000000 :: 100000000000 :: 1000000000000 :: 10000000000000 :: 100000000000000 :: 1000000000000000 :: 10000000000000000 :: 100000000000000000 :: 1000000000000000000 :: 10000000000000000000 :: []
theorem gTab : Tryd.prog.globalNamed "math/bits.deBruijn64tab" = some 3 := by kernel_rfl
theorem gTabType : (Tryd.prog.globals[3]?).map (·.type) = some 124 := by kernel_rfl
theorem cellsA : Tryd.prog.cellsOf 124 = 64 := by kernel_rfl
theorem cellsE : Tryd.prog.cellsOf 5 = 1 := by kernel_rfl
/-- What the row's list gives. -/
theorem table {W : World} (h : laidMetH Tryd.prog Rows.queryOrderUptoRow.laid W) : TabR (hpOf W) := by
  have h' : laidMet Tryd.prog Rows.queryOrderUptoRow.laid W := h
  obtain ⟨ps, ⟨_, _, _, _, _, _, _, _, _, _, ⟨g', t', cs, fuel, p, q, hg', ht', hvar, hd, _, _⟩, _⟩, _⟩ := h'
  obtain rfl := Option.some.inj (gTab.symm.trans hg')
  obtain rfl := Option.some.inj (gTabType.symm.trans ht')
  have hc : cs.toList = t64.map fun z => Value.int .u8 z := Lib.cells_of_tab Tryd.underlying124 Tryd.underlying5 cellsE cellsA (zs := t64) hd
  have h4 := World.var?_cell gTab hvar 15
  rw [← Array.getElem?_toList, hc] at h4
  have h5 : W.cell? ⟨3, 15, none⟩ = some (.int .u8 4) := h4
  unfold World.cell? at h5
  split at h5
  · rename_i cc E fz hb
    exact ⟨cc, E, fz, hb, by simpa using h5⟩
  · cases h5
/-- A world for the witness: the listed variables hold what their initialisers lay. -/
def layV (c : Array Value) : Obj → Obj
  | .cells _ t frozen => .cells c t frozen
  | o => o
noncomputable def laidWorld (os : Os) : World :=
  { World.holding Tryd.prog os ⟨#[], #[], []⟩ with heap := (((World.holding Tryd.prog os ⟨#[], #[], []⟩).heap.modify 2 (layV (t32.map fun z => Value.int .u8 z).toArray)).modify 3 (layV (t64.map fun z => Value.int .u8 z).toArray)).modify 0 (layV (p10.map fun z => Value.int .u64 z).toArray) }
theorem laid_met (os : Os) : laidMet Tryd.prog Rows.queryOrderUptoRow.laid ((laidWorld os).forCall (fun _ _ => 0) ⟨#[], #[.agg #[.int .i64 0, .slice none 0 0, .slice none 0 0], .agg #[.int .i64 0, .slice none 0 0, .slice none 0 0], .agg #[.int .i64 0, .slice none 0 0, .slice none 0 0]], []⟩).memory :=
  laidMet_of_run' 8 (by kernel_rfl) (by kernel_rfl)
theorem reads (os : Os) {H : Type} (enc : TypeId × Value → H) : ∃ places, DataW.whole enc Tryd.prog ((laidWorld os).forCall (fun _ _ => 0) ⟨#[], #[.agg #[.int .i64 0, .slice none 0 0, .slice none 0 0], .agg #[.int .i64 0, .slice none 0 0, .slice none 0 0], .agg #[.int .i64 0, .slice none 0 0, .slice none 0 0]], []⟩).memory Tryd.f4.params.toList Rows.queryOrderSpec.vars false #[Value.agg #[.int .i64 0, .slice none 0 0, .slice none 0 0], .agg #[.int .i64 0, .slice none 0 0, .slice none 0 0], .agg #[.int .i64 0, .slice none 0 0, .slice none 0 0]].toList 8 = some ([.agg [.lit (.int .i64 0), .nil, .nil], .agg [.lit (.int .i64 0), .nil, .nil], .agg [.lit (.int .i64 0), .nil, .nil]], [], places) :=
  ⟨[], by kernel_rfl⟩
set_option maxRecDepth 100000 in
theorem contract (H : Type) (enc : TypeId × Value → H) (W : World) (base : Nat) (args : Array Value) (ds gs : List (DataW H)) (before : List MemPlace)
    (hval : ∀ (j : Nat) t v, Tryd.f4.params[j]? = some t → args[j]? = some v → Value.okWide Tryd.prog W .any base t v)
    (hW : DataW.Whole enc Tryd.prog Tryd.f4.params.toList Rows.queryOrderSpec.vars false W args.toList ds gs before) (hk : Rows.uptoSmall H (ds ++ gs) = true) (hL : laidMetH Tryd.prog Rows.queryOrderUptoRow.laid W) :
    Calls Tryd.prog 4 args W fun e W' => ∃ v, e = .returned v ∧ Rows.queryOrderSpec.post enc Tryd.prog Tryd.f4 false true false false W args v W' := by
  have hT := table hL
  have hW' := hW
  obtain ⟨p, q, hA0, hV, rfl, hfz, hnd⟩ := hW
  have hA : DataW.TrodAll enc Tryd.prog W 0 (fun _ => true) true Tryd.f4.params.toList args.toList ds p := hA0
  rw [Tryd.params4] at hA hval
  obtain ⟨v0, vs0, d0, ds0, p0, q0, hargs, rfl, rfl, h0, r0⟩ := trodAll_cons hA
  obtain ⟨v1, vs1, d1, ds1, p1, q1, rfl, rfl, rfl, h1, r1⟩ := trodAll_cons r0
  obtain ⟨v2, vs2, d2, ds2, p2, q2, rfl, rfl, rfl, h2, r2⟩ := trodAll_cons r1
  obtain ⟨rfl, rfl, rfl⟩ := trodAll_nil r2
  obtain rfl : args = #[v0, v1, v2] := by cases args; simp_all
  obtain ⟨rfl, rfl⟩ := trodVars_none hV
  have hbk : Rows.uptoBulk d0 + (Rows.uptoBulk d1 + Rows.uptoBulk d2) ≤ 1048576 := by
    have h := of_decide_eq_true hk
    simp only [List.append_nil, Rows.uptoBulkAll, Nat.add_zero] at h
    exact h
  obtain ⟨a0, rfl, _⟩ := okWide_struct Tryd.underlying30 (hval 0 30 v0 rfl rfl)
  obtain ⟨k0, h0⟩ := h0
  obtain ⟨w0, e0, g0, m0⟩ := op_queryB _ h0 (Nat.le_refl _)
  have e0 : a0 = (encQ w0).toArray := by rw [← e0]; simp [Value.cells]
  subst e0
  obtain ⟨a1, rfl, _⟩ := okWide_struct Tryd.underlying30 (hval 1 30 v1 rfl rfl)
  obtain ⟨k1, h1⟩ := h1
  obtain ⟨w1, e1, g1, m1⟩ := op_queryB _ h1 (Nat.le_refl _)
  have e1 : a1 = (encQ w1).toArray := by rw [← e1]; simp [Value.cells]
  subst e1
  obtain ⟨a2, rfl, _⟩ := okWide_struct Tryd.underlying30 (hval 2 30 v2 rfl rfl)
  obtain ⟨k2, h2⟩ := h2
  obtain ⟨w2, e2, g2, m2⟩ := op_queryB _ h2 (Nat.le_refl _)
  have e2 : a2 = (encQ w2).toArray := by rw [← e2]; simp [Value.cells]
  subst e2
  clear hA0 hval
  refine (order_any (hpOf W) hT w0 w1 w2 g0 g1 g2 (by dsimp only at m0 m1 m2; omega)).below.mono fun e W' ⟨v, H', he, ⟨hv, _⟩, hb⟩ => ?_
  subst hv
  exact ⟨_, he, post_true (by kernel_rfl) rfl (by kernel_rfl) (fun l hl => match l, hl with | [_, _, _], _ => rfl) (by kernel_rfl : Tryd.f4.resultTypes = #[4]) Tryd.underlying4 hW' hb⟩
set_option maxRecDepth 100000 in
theorem liftedUpto (os : Os) (started : os.Started) (H : Type) (enc : TypeId × Value → H) (F : Stop.Interp) :
    ReturnsInHanded {} Tryd.checked os 4 .any ((Rows.OpenSpec.upto Rows.queryOrderSpec).preRow enc Tryd.prog Tryd.f4 Rows.queryOrderUptoRow.domain false Rows.queryOrderUptoRow.laid) (((Rows.OpenSpec.upto Rows.queryOrderSpec).at F).post enc Tryd.prog Tryd.f4 false true false false) := by
  obtain ⟨places, hx⟩ := reads os enc
  refine returnsInHanded_of_row (C := Tryd.checked) (s := Rows.OpenSpec.upto Rows.queryOrderSpec) own started (by kernel_rfl) Tryd.func4
    (witness_row_at (enc := enc) (C := Tryd.checked) false (laidWorld os) #[.agg #[.int .i64 0, .slice none 0 0, .slice none 0 0], .agg #[.int .i64 0, .slice none 0 0, .slice none 0 0], .agg #[.int .i64 0, .slice none 0 0, .slice none 0 0]] rfl (by kernel_rfl) (by kernel_rfl) (by kernel_rfl)
      (OpenSpec.preRow_of_cond 8 hx (by kernel_rfl) (fun k hk => by cases hk; kernel_rfl) (by kernel_rfl) (laid_met os))) ?_
  intro W base args ds gs before hval hW _ hcond _ hL _ _
  exact contract H enc W base args ds gs before hval hW (hcond _ rfl) hL
theorem saidUpto : Rows.QueryOrderUptoSaid :=
  OpenClaim.holds_of_cond 4 Tryd.f4 rfl rfl rfl rfl rfl rfl rfl ⟨rfl, rfl, rfl, rfl, rfl⟩ rfl rfl rfl rfl rfl (by kernel_rfl) Tryd.func4 (by kernel_rfl)
    (of_decide_eq_true (by kernel_rfl)) (by unfold Func.isWrapper; first | (rw [if_pos (by decide +kernel)]; kernel_rfl) | (rw [if_neg (by decide +kernel)]; exact ⟨rfl, rfl⟩))
    (fun os started H enc _ F => by rw [OpenClaim.pre_eq_preRow]; exact liftedUpto os started H enc F)
theorem plain (f : FuncId) (fn : Func) (hf : Tryd.pinned.checked.prog.funcNamed "mudlark/mudlarklaw16.QueryOrder" = some f) (hfn : Tryd.pinned.checked.prog.funcs[f]? = some fn) :
    false = Tryd.pinned.checked.prog.looks [] ∧ ∀ (j : Nat) t, fn.params[j]? = some t → Tryd.pinned.checked.prog.wantsStandIn t = false := by
  obtain rfl : f = 4 := Option.some.inj ((show Tryd.prog.funcNamed "mudlark/mudlarklaw16.QueryOrder" = some 4 by kernel_rfl).symm.trans hf) |>.symm
  obtain rfl : fn = Tryd.f4 := (Option.some.inj (Tryd.func4.symm.trans hfn)).symm
  refine ⟨by kernel_rfl, fun j t ht => ?_⟩
  rw [Tryd.params4] at ht
  have hm : t = 30 := by
    have := Array.mem_of_getElem? ht
    simpa using this
  subst hm
  exact (show Tryd.prog.wantsStandIn 30 = false by kernel_rfl)
theorem proved : Rows.QueryOrderUptoCardSaid :=
  Claim7.holds_tied_plain_at .later [] _ _ _ _ saidUpto (fun _ h => by cases h) (by kernel_rfl) (fun _ h => by cases h) queryOrderUpto_row_tie rfl ⟨rfl, rfl⟩ (by kernel_rfl) rfl plain (by kernel_rfl)
end Go.Proofs.YtgodcegaffgfjaaDoor.queryOrder
