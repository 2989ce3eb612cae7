
/- ShardSafe: for every input the law returns true, and the input reads as it did. -/
import Derived.Test.YtohpeoakdgckfaaGreatRows
import Derived.Test.YtohpeoakdgckfaaGreatLss
import Derived.Test.YtohpeoakdgckfaaGreatRp
namespace Go.Proofs.YtohpeoakdgckfaaGreat.shardSafe
open Go.ChangeShapes Go.WideShapes Go.ChangeAt Go.RowKit Sx

theorem own : ownKnob Tryz.prog.godebug = none := by kernel_rfl
set_option maxRecDepth 100000 in
theorem lifted (os : Os) (started : os.Started) (H : Type) (enc : TypeId × Value → H) :
    ReturnsInHanded {} Tryz.checked os 6 .any (Rows.shardSafeSpec.pre6 enc Tryz.prog Tryz.f6 Rows.shardSafeRow.domain false) (Rows.shardSafeSpec.post enc Tryz.prog Tryz.f6 false true false false) := by
  refine returnsInHanded_of_change_sized (C := Tryz.checked) own started (by kernel_rfl) Tryz.func6
    (ChangeSpec.witness6 (enc := enc) (C := Tryz.checked) false ⟨#[], #[.slice none 0 0, .int .i64 0, .int .u32 0, .int .i64 0, .slice none 0 0], []⟩ 8 (by kernel_rfl) (by kernel_rfl) (by kernel_rfl) (by kernel_rfl)) ?_
  intro W base args ds gs before hval0 hW hcnd hsz0 _
  have hval : ∀ (j : Nat) t v, Tryz.f6.params[j]? = some t → args[j]? = some v → Value.okWide Tryz.prog W .any base t v := hval0
  have hW' := hW
  obtain ⟨p, q, hA0, hV, rfl, hfz, hnd⟩ := hW
  have hA : DataW.TrodAll enc Tryz.prog W 0 (fun _ => true) true Tryz.f6.params.toList args.toList ds p := hA0
  have hsz : (DataW.weightsEach Tryz.prog (Tryz.f6.params.toList ++ Rows.shardSafeSpec.plain.varTypes Tryz.prog) (ds ++ gs)).all (· ≤ reachBytes) = true := hsz0
  rw [Tryz.params6] at hA hval hsz
  obtain ⟨v0, vs0, d0, ds0, p0, q0, hargs, rfl, rfl, h0, r0⟩ := trodAll_cons hA
  obtain ⟨v1, vs1, d1, ds1, p1, q1, rfl, rfl, rfl, h1, r1⟩ := trodAll_cons r0
  obtain ⟨v2, vs2, d2, ds2, p2, q2, rfl, rfl, rfl, h2, r2⟩ := trodAll_cons r1
  obtain ⟨v3, vs3, d3, ds3, p3, q3, rfl, rfl, rfl, h3, r3⟩ := trodAll_cons r2
  obtain ⟨v4, vs4, d4, ds4, p4, q4, rfl, rfl, rfl, h4, r4⟩ := trodAll_cons r3
  obtain ⟨rfl, rfl, rfl⟩ := trodAll_nil r4
  obtain rfl : args = #[v0, v1, v2, v3, v4] := by cases args; simp_all
  obtain ⟨a0, n0, c0, rfl⟩ := okWide_slice Tryz.underlying22 (hval 0 22 v0 rfl rfl)
  obtain ⟨k0, h0⟩ := h0
  obtain ⟨w0, l0, e0, g0, b0⟩ := op_files h0 (wt_each hsz (j := 0) rfl rfl)
  obtain rfl : Value.slice a0 n0 c0 = w0 := by injection e0
  obtain ⟨l1, rfl⟩ := okWide_int Tryz.underlying3 (hval 1 3 v1 rfl rfl)
  obtain ⟨s2, rfl⟩ := okWide_int Tryz.underlying55 (hval 2 55 v2 rfl rfl)
  obtain ⟨k2, h2⟩ := h2
  obtain ⟨i2, e2, f2⟩ := open_num Tryz.underlying55 h2
  obtain ⟨l2, rfl, b2⟩ := wf_u32 f2
  obtain rfl : s2 = l2 := by injection e2 with e; injection e
  obtain ⟨l3, rfl⟩ := okWide_int Tryz.underlying3 (hval 3 3 v3 rfl rfl)
  obtain ⟨a4, n4, c4, rfl⟩ := okWide_slice Tryz.underlying26 (hval 4 26 v4 rfl rfl)
  obtain ⟨k4, h4⟩ := h4
  obtain ⟨w4, l4, e4, g4, b4⟩ := op_bytes h4 (wt_each hsz (j := 4) rfl rfl)
  obtain rfl : Value.slice a4 n4 c4 = w4 := by injection e4
  clear hA0 hval0
  refine (shardSafe_any _ _ _ l0 l1 l3 l2 l4 g0 b0 g4 (by have := b4; omega) b2).below.mono fun e W' ⟨v, H', he, ⟨hv, _⟩, hb⟩ => ?_
  subst hv
  exact ⟨_, he, post_true (by kernel_rfl) rfl (by kernel_rfl) (fun l hl => match l, hl with | [_, _, _, _, _], _ => rfl) (by kernel_rfl : Tryz.f6.resultTypes = #[4]) Tryz.underlying4 hW' hb⟩

theorem over : Rows.shardSafeRow.holds Tryz.pinned (OpenSpec.ofChange Rows.shardSafeSpec) :=
  OpenClaim.holds_of_wide 6 Tryz.f6 rfl rfl rfl rfl rfl rfl rfl ⟨rfl, rfl, rfl, rfl, rfl⟩ rfl rfl rfl rfl rfl (by kernel_rfl) Tryz.func6 (by kernel_rfl)
    (of_decide_eq_true (by kernel_rfl)) (by unfold Func.isWrapper; first | (rw [if_pos (by decide +kernel)]; kernel_rfl) | (rw [if_neg (by decide +kernel)]; exact ⟨rfl, rfl⟩))
    (fun os started H enc _ => lifted os started H enc)

theorem proved : Rows.ShardSafeSaid :=
  over
end Go.Proofs.YtohpeoakdgckfaaGreat.shardSafe
