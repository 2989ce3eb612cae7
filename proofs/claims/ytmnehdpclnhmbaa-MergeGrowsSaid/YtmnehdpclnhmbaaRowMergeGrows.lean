
/- MergeGrows: for every input the law returns true, and the input reads as it did. -/
import Derived.Test.YtmnehdpclnhmbaaRows
import Derived.Test.YtmnehdpclnhmbaaNx
import Derived.Test.YtmnehdpclnhmbaaRu
namespace Go.Proofs.Ytmnehdpclnhmbaa.mergeGrows
open Go.ChangeShapes Go.WideShapes Go.ChangeAt Go.RowKit Sx

theorem own : ownKnob Try.prog.godebug = none := by kernel_rfl
set_option maxRecDepth 100000 in
theorem lifted (os : Os) (started : os.Started) (H : Type) (enc : TypeId × Value → H) :
    ReturnsInHanded {} Try.checked os 3 .any (Rows.mergeGrowsSpec.pre6 enc Try.prog Try.f3 Rows.mergeGrowsRow.domain false) (Rows.mergeGrowsSpec.post enc Try.prog Try.f3 false true false false) := by
  refine returnsInHanded_of_change_sized (C := Try.checked) own started (by kernel_rfl) Try.func3
    (ChangeSpec.witness6 (enc := enc) (C := Try.checked) false ⟨#[], #[.slice none 0 0], []⟩ 8 (by kernel_rfl) (by kernel_rfl) (by kernel_rfl) (by kernel_rfl)) ?_
  intro W base args ds gs before hval0 hW hcnd hsz0 _
  have hval : ∀ (j : Nat) t v, Try.f3.params[j]? = some t → args[j]? = some v → Value.okWide Try.prog W .any base t v := hval0
  have hW' := hW
  obtain ⟨p, q, hA0, hV, rfl, hfz, hnd⟩ := hW
  have hA : DataW.TrodAll enc Try.prog W 0 (fun _ => true) true Try.f3.params.toList args.toList ds p := hA0
  have hsz : (DataW.weightsEach Try.prog (Try.f3.params.toList ++ Rows.mergeGrowsSpec.plain.varTypes Try.prog) (ds ++ gs)).all (· ≤ reachBytes) = true := hsz0
  rw [Try.params3] at hA hval hsz
  obtain ⟨v0, vs0, d0, ds0, p0, q0, hargs, rfl, rfl, h0, r0⟩ := trodAll_cons hA
  obtain ⟨rfl, rfl, rfl⟩ := trodAll_nil r0
  obtain rfl : args = #[v0] := by cases args; simp_all
  obtain ⟨a0, n0, c0, rfl⟩ := okWide_slice Try.underlying22 (hval 0 22 v0 rfl rfl)
  obtain ⟨k0, h0⟩ := h0
  obtain ⟨w0, l0, e0, g0, b0, m0⟩ := op_chrows h0 (wt_each hsz (j := 0) rfl rfl)
  obtain rfl : Value.slice a0 n0 c0 = w0 := by injection e0
  clear hA0 hval0
  refine (mergeGrows_any _ _ l0 g0 m0 b0).below.mono fun e W' ⟨v, H', he, ⟨hv, _⟩, hb⟩ => ?_
  subst hv
  exact ⟨_, he, post_true (by kernel_rfl) rfl (by kernel_rfl) (fun l hl => match l, hl with | [_], _ => rfl) (by kernel_rfl : Try.f3.resultTypes = #[4]) Try.underlying4 hW' hb⟩

theorem over : Rows.mergeGrowsRow.holds Try.pinned (OpenSpec.ofChange Rows.mergeGrowsSpec) :=
  OpenClaim.holds_of_wide 3 Try.f3 rfl rfl rfl rfl rfl rfl rfl ⟨rfl, rfl, rfl, rfl, rfl⟩ rfl rfl rfl rfl rfl (by kernel_rfl) Try.func3 (by kernel_rfl)
    (of_decide_eq_true (by kernel_rfl)) (by unfold Func.isWrapper; first | (rw [if_pos (by decide +kernel)]; kernel_rfl) | (rw [if_neg (by decide +kernel)]; exact ⟨rfl, rfl⟩))
    (fun os started H enc _ => lifted os started H enc)

theorem proved : Rows.MergeGrowsSaid :=
  over
end Go.Proofs.Ytmnehdpclnhmbaa.mergeGrows
