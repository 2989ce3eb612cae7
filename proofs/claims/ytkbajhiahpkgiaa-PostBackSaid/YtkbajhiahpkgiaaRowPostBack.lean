/- PostBack: for every input the law returns true, and the input reads as it did. -/
import Derived.Test.YtkbajhiahpkgiaaRows
import Derived.Test.YtkbajhiahpkgiaaPbk
import Derived.Test.YtkbajhiahpkgiaaRz
namespace Go.Proofs.Ytkbajhiahpkgiaa.postBack
open Go.ChangeShapes Go.WideShapes Go.ChangeAt Go.RowKit Sx

theorem own : ownKnob Try.prog.godebug = none := by kernel_rfl
set_option maxRecDepth 100000 in
theorem lifted (os : Os) (started : os.Started) (H : Type) (enc : TypeId × Value → H) :
    ReturnsInHanded {} Try.checked os 4 .any (Rows.postBackSpec.pre6 enc Try.prog Try.f4 Rows.postBackRow.domain false) (Rows.postBackSpec.post enc Try.prog Try.f4 false true false false) := by
  refine returnsInHanded_of_change_sized (C := Try.checked) own started (by kernel_rfl) Try.func4
    (ChangeSpec.witness6 (enc := enc) (C := Try.checked) false ⟨#[], #[.slice none 0 0, .slice none 0 0, .string ByteArray.empty, .int .i64 0], []⟩ 8 (by kernel_rfl) (by kernel_rfl) (by kernel_rfl) (by kernel_rfl)) ?_
  intro W base args ds gs before hval0 hW hcnd hsz0 _
  have hval : ∀ (j : Nat) t v, Try.f4.params[j]? = some t → args[j]? = some v → Value.okWide Try.prog W .any base t v := hval0
  have hW' := hW
  obtain ⟨p, q, hA0, hV, rfl, hfz, hnd⟩ := hW
  have hA : DataW.TrodAll enc Try.prog W 0 (fun _ => true) true Try.f4.params.toList args.toList ds p := hA0
  have hsz : (DataW.weightsEach Try.prog (Try.f4.params.toList ++ Rows.postBackSpec.plain.varTypes Try.prog) (ds ++ gs)).all (· ≤ reachBytes) = true := hsz0
  rw [Try.params4] at hA hval hsz
  obtain ⟨v0, vs0, d0, ds0, p0, q0, hargs, rfl, rfl, h0, r0⟩ := trodAll_cons hA
  obtain ⟨v1, vs1, d1, ds1, p1, q1, rfl, rfl, rfl, h1, r1⟩ := trodAll_cons r0
  obtain ⟨v2, vs2, d2, ds2, p2, q2, rfl, rfl, rfl, h2, r2⟩ := trodAll_cons r1
  obtain ⟨v3, vs3, d3, ds3, p3, q3, rfl, rfl, rfl, h3, r3⟩ := trodAll_cons r2
  obtain ⟨rfl, rfl, rfl⟩ := trodAll_nil r3
  obtain rfl : args = #[v0, v1, v2, v3] := by cases args; simp_all
  obtain ⟨a0, n0, c0, rfl⟩ := okWide_slice Try.underlying29 (hval 0 29 v0 rfl rfl)
  obtain ⟨k0, h0⟩ := h0
  obtain ⟨w0, l0, e0, g0, b0⟩ := op_postings h0 (wt_each hsz (j := 0) rfl rfl)
  obtain rfl : Value.slice a0 n0 c0 = w0 := by injection e0
  obtain ⟨a1, n1, c1, rfl⟩ := okWide_slice Try.underlying30 (hval 1 30 v1 rfl rfl)
  obtain ⟨k1, h1⟩ := h1
  obtain ⟨w1, l1, e1, g1, b1⟩ := op_bytes h1 (wt_each hsz (j := 1) rfl rfl)
  obtain rfl : Value.slice a1 n1 c1 = w1 := by injection e1
  obtain ⟨s2, rfl⟩ := okWide_string Try.underlying9 (hval 2 9 v2 rfl rfl)
  obtain ⟨k2, h2⟩ := h2
  obtain ⟨l2, e2, b2⟩ := op_str h2 (wt_each hsz (j := 2) rfl rfl)
  obtain rfl : s2 = bs l2 := by injection e2 with e; injection e
  obtain ⟨l3, rfl⟩ := okWide_int Try.underlying3 (hval 3 3 v3 rfl rfl)
  clear hA0 hval0
  refine (postBack_any _ _ _ l0 l1 l2 l3 g0 b0 g1 b1).below.mono fun e W' ⟨v, H', he, ⟨hv, _⟩, hb⟩ => ?_
  subst hv
  exact ⟨_, he, post_true (by kernel_rfl) rfl (by kernel_rfl) (fun l hl => match l, hl with | [_, _, _, _], _ => rfl) (by kernel_rfl : Try.f4.resultTypes = #[4]) Try.underlying4 hW' hb⟩

theorem over : Rows.postBackRow.holds Try.pinned (OpenSpec.ofChange Rows.postBackSpec) :=
  OpenClaim.holds_of_wide 4 Try.f4 rfl rfl rfl rfl rfl rfl rfl ⟨rfl, rfl, rfl, rfl, rfl⟩ rfl rfl rfl rfl rfl (by kernel_rfl) Try.func4 (by kernel_rfl)
    (of_decide_eq_true (by kernel_rfl)) (by unfold Func.isWrapper; first | (rw [if_pos (by decide +kernel)]; kernel_rfl) | (rw [if_neg (by decide +kernel)]; exact ⟨rfl, rfl⟩))
    (fun os started H enc _ => lifted os started H enc)

theorem proved : Rows.PostBackSaid :=
  over
end Go.Proofs.Ytkbajhiahpkgiaa.postBack
