
/- MergeLives: for every input the law returns true, and the input reads as it did. -/
import Derived.Test.YtmnehdpclnhmbaaGreatRows
import Derived.Test.YtmnehdpclnhmbaaGreatNv
import Derived.Test.YtmnehdpclnhmbaaGreatRs
namespace Go.Proofs.YtmnehdpclnhmbaaGreat.mergeLives
open Go.ChangeShapes Go.WideShapes Go.ChangeAt Go.RowKit Sx

theorem own : ownKnob Tryz.prog.godebug = none := by kernel_rfl
set_option maxRecDepth 100000 in
theorem lifted (os : Os) (started : os.Started) (H : Type) (enc : TypeId × Value → H) :
    ReturnsInHanded {} Tryz.checked os 3 .any (Rows.mergeLivesSpec.pre6 enc Tryz.prog Tryz.f3 Rows.mergeLivesRow.domain false) (Rows.mergeLivesSpec.post enc Tryz.prog Tryz.f3 false true false false) := by
  refine returnsInHanded_of_change_sized (C := Tryz.checked) own started (by kernel_rfl) Tryz.func3
    (ChangeSpec.witness6 (enc := enc) (C := Tryz.checked) false ⟨#[], #[.slice none 0 0, .slice none 0 0], []⟩ 8 (by kernel_rfl) (by kernel_rfl) (by kernel_rfl) (by kernel_rfl)) ?_
  intro W base args ds gs before hval0 hW hcnd hsz0 _
  have hval : ∀ (j : Nat) t v, Tryz.f3.params[j]? = some t → args[j]? = some v → Value.okWide Tryz.prog W .any base t v := hval0
  have hW' := hW
  obtain ⟨p, q, hA0, hV, rfl, hfz, hnd⟩ := hW
  have hA : DataW.TrodAll enc Tryz.prog W 0 (fun _ => true) true Tryz.f3.params.toList args.toList ds p := hA0
  have hsz : (DataW.weightsEach Tryz.prog (Tryz.f3.params.toList ++ Rows.mergeLivesSpec.plain.varTypes Tryz.prog) (ds ++ gs)).all (· ≤ reachBytes) = true := hsz0
  rw [Tryz.params3] at hA hval hsz
  obtain ⟨v0, vs0, d0, ds0, p0, q0, hargs, rfl, rfl, h0, r0⟩ := trodAll_cons hA
  obtain ⟨v1, vs1, d1, ds1, p1, q1, rfl, rfl, rfl, h1, r1⟩ := trodAll_cons r0
  obtain ⟨rfl, rfl, rfl⟩ := trodAll_nil r1
  obtain rfl : args = #[v0, v1] := by cases args; simp_all
  obtain ⟨a0, n0, c0, rfl⟩ := okWide_slice Tryz.underlying22 (hval 0 22 v0 rfl rfl)
  obtain ⟨k0, h0⟩ := h0
  obtain ⟨w0, l0, e0, g0, b0, m0⟩ := op_parts h0 (wt_each hsz (j := 0) rfl rfl)
  obtain rfl : Value.slice a0 n0 c0 = w0 := by injection e0
  obtain ⟨a1, n1, c1, rfl⟩ := okWide_slice Tryz.underlying23 (hval 1 23 v1 rfl rfl)
  obtain ⟨k1, h1⟩ := h1
  obtain ⟨w1, l1, e1, g1, b1, m1⟩ := op_changes h1 (wt_each hsz (j := 1) rfl rfl)
  obtain rfl : Value.slice a1 n1 c1 = w1 := by injection e1
  clear hA0 hval0
  refine (mergeLives_any _ _ _ l0 l1 g0 g1 m0 (fun x hx => (b0 x hx).1) (fun x hx => (b0 x hx).2) b1).below.mono fun e W' ⟨v, H', he, ⟨hv, _⟩, hb⟩ => ?_
  subst hv
  exact ⟨_, he, post_true (by kernel_rfl) rfl (by kernel_rfl) (fun l hl => match l, hl with | [_, _], _ => rfl) (by kernel_rfl : Tryz.f3.resultTypes = #[4]) Tryz.underlying4 hW' hb⟩

theorem over : Rows.mergeLivesRow.holds Tryz.pinned (OpenSpec.ofChange Rows.mergeLivesSpec) :=
  OpenClaim.holds_of_wide 3 Tryz.f3 rfl rfl rfl rfl rfl rfl rfl ⟨rfl, rfl, rfl, rfl, rfl⟩ rfl rfl rfl rfl rfl (by kernel_rfl) Tryz.func3 (by kernel_rfl)
    (of_decide_eq_true (by kernel_rfl)) (by unfold Func.isWrapper; first | (rw [if_pos (by decide +kernel)]; kernel_rfl) | (rw [if_neg (by decide +kernel)]; exact ⟨rfl, rfl⟩))
    (fun os started H enc _ => lifted os started H enc)

theorem proved : Rows.MergeLivesSaid :=
  over
end Go.Proofs.YtmnehdpclnhmbaaGreat.mergeLives
