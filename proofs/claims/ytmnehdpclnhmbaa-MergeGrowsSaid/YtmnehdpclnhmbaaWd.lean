
/- wire: septets, fits, the Writer: their contracts. wire.Writer.Number: its contract. slices.Clone of bytes; wire.Writer.Fixed, Text, Bytes: their contracts. -/
import Derived.Test.YtmnehdpclnhmbaaAp
import Derived.Test.YtmnehdpclnhmbaaTy
import Derived.Test.YtmnehdpclnhmbaaProg
import Derived.Test.YtmnehdpclnhmbaaSx
import Derived.Test.YtmnehdpclnhmbaaBits
import Derived.WalkSpells
import Derived.WalkLawsBesides
import Derived.ProofKit
namespace Go.Proofs.Ytmnehdpclnhmbaa
open Go.RowKit Sx

attribute [local go_sem] Oper.semAt_some

end Go.Proofs.Ytmnehdpclnhmbaa

namespace Go.Proofs.Ytmnehdpclnhmbaa
open Go.RowKit Sx

attribute [local go_sem] Oper.semAt_some

end Go.Proofs.Ytmnehdpclnhmbaa

namespace Go.Proofs.Ytmnehdpclnhmbaa
open Go.RowKit Sx

attribute [local go_sem] Oper.semAt_some

abbrev U8R (v : Value) (l : List UInt8) : Ch := RowC 5 1 v l.length (u8s l)
abbrev U8S (r : Hp) (v : Value) (l : List UInt8) : Prop := Sl r 1 v l.length (u8s l)

theorem u8s_one (l : List UInt8) : (u8s l).all one? = true := by simp [u8s, List.all_eq_true, one?]
theorem Sl.news {r : Hp} {n c : Nat} {a : Addr} {xs : List Value} (h : Sl r 1 (.slice (some a) n c) n xs) (H : List Ch) : ∀ j u, xs[j]? = some u → Rd1 r H (a.add j) u := by
  intro j u hu
  obtain ⟨hj, rfl⟩ := List.getElem?_eq_some_iff.1 hu
  have hjn : j < n := by have := h.1; omega
  obtain ⟨b, off, u', e, h1, h2⟩ := h.at1 hjn
  cases e
  rw [add_none]
  rw [List.getElem?_eq_getElem hj] at h1
  cases h1
  exact h2 H

set_option maxHeartbeats 400000 in
theorem clone_any (r : Hp) (v : Value) (l : List UInt8) (hv : U8S r v l) (hl : l.length ≤ 100000000000000) : Tri Try.prog r 22 [v] [] fun w H => ∃ a c, w = .slice a l.length c ∧ H = [U8R w l] := by
  have hn := fun (a : Option Addr) (n c : Nat) (w : World) => Lib.run_eql_slice_nil (P := Try.prog) w 40 _ a n c 0 0 Try.underlying40
  have hall : (∃ ad n c, v = .slice (some ad) n c) ∨ (v = .slice none 0 0 ∧ l = []) := by
    rcases hv.2.2 with ⟨⟨a, rfl⟩, h0⟩ | ⟨b, off, cap, c, E, fz, rfl, h1, h2, h3⟩
    · cases a with
      | none => exact .inr ⟨rfl, by cases l <;> simp_all⟩
      | some ad => exact .inl ⟨ad, _, _, rfl⟩
    · exact .inl ⟨_, _, _, rfl⟩
  rcases hall with ⟨ad, nn, cap, rfl⟩ | ⟨rfl, rfl⟩
  rotate_left
  · refine tri_put (RowC.nil 5 1) ?_
    refine fn_of_sw Try.func22 rfl _ rfl ?_; refine aen Try.ntmps22 ?_
    repeat' (first | refine ax0m ?_ | (refine abb ?_; intro b) | refine ax1m ?_ | (refine aac ?_; intro ac cc) | refine ax2m ?_ | (refine ap3 ?_ ?_ <;> try intro h) | apply True.intro)
    ((with_reducible apply fp_ret); exact res_1 rfl rfl)
    exact ⟨_, _, rfl, rfl⟩
  · obtain ⟨a0, c0, e0⟩ := hv.form
    injection e0 with e1 e2 e3
    subst e2
    clear e1 e3
    have HV := hid hv
    have HL := hid hl
    clear hv hl
    by_cases h0 : l = []
    · subst h0
      refine fn_of_sw Try.func22 rfl _ rfl ?_; refine aen Try.ntmps22 ?_
      repeat' (first | refine ax0m ?_ | (refine abb ?_; intro b) | ((with_reducible apply kx_bs0 (E := 5) (z := .int .u8 0) (sz := 1) (by_ := 1)); kernel_rfl; kernel_rfl; intro bz; (refine apk ?_)) | ((with_reducible apply swo_imp (A := pt _ _) (B := U8R (.slice (some ⟨bz, 0, none⟩) 0 0) [])); (exact atk); (intro h e; exact RowC.of_pt (Nat.le_refl _) (Nat.zero_le _) rfl h e); (with_reducible apply kx_append0 (E := 5) (z := .int .u8 0) (sz := 1) (by_ := 1)); kernel_rfl; kernel_rfl; rfl; rfl; (exact atk); intro a' c' e; clear e; (refine apk ?_)) | refine ax1m ?_ | (refine aac ?_; intro ac cc) | refine ax2m ?_ | (refine ap3 ?_ ?_ <;> try intro h) | apply True.intro)
      ((with_reducible apply fp_ret); exact res_1 rfl rfl)
      exact ⟨_, _, rfl, rfl⟩
    · refine fn_of_sw Try.func22 rfl _ rfl ?_; refine aen Try.ntmps22 ?_
      repeat' (first | refine ax0m ?_ | (refine abb ?_; intro b) | ((with_reducible apply kx_bs0 (E := 5) (z := .int .u8 0) (sz := 1) (by_ := 1)); kernel_rfl; kernel_rfl; intro bz; (refine apk ?_)) | ((with_reducible apply swo_imp (A := pt _ _) (B := U8R (.slice (some ⟨bz, 0, none⟩) 0 0) [])); (exact atk); (intro h e; exact RowC.of_pt (Nat.le_refl _) (Nat.zero_le _) rfl h e); (with_reducible apply kx_append (E := 5) (z := .int .u8 0) (sz := 1) (by_ := 1) (news := u8s l)); kernel_rfl; kernel_rfl; rfl; rfl; rfl; rfl; (exact atk); exact (by simpa using HV.out.1); exact Sl.news HV.out _; exact u8s_one _; (have := HL.out; unfold maxLen; simp; omega); (have := HL.out; simp; omega); intro a' c'; (refine apk ?_)) | refine ax1m ?_ | (refine aac ?_; intro ac cc) | refine ax2m ?_ | (refine ap3 ?_ ?_ <;> try intro h) | apply True.intro)
      ((with_reducible apply fp_ret); exact res_1 rfl rfl)
      exact ⟨a', c', by simp, by simp [u8s, U8R]⟩

def kk : Nat → Int
  | 0 => 24
  | 1 => 16
  | 2 => 8
  | 3 => 0
  | _ => -8
end Go.Proofs.Ytmnehdpclnhmbaa
