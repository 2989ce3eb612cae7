
/- slices.IndexFunc, slices.ContainsFunc at a function that is a variable. -/
import Derived.Test.YtkbajhiahpkgiaaGreatTy
import Derived.Test.YtkbajhiahpkgiaaGreatProg
import Derived.Test.YtkbajhiahpkgiaaGreatSx
namespace Go.Proofs.YtkbajhiahpkgiaaGreat
open Go.RowKit Sx

/-- Where the first one is. -/
def FstAt (n : Nat) (p : Nat → Bool) (v : Value) : Prop := (∃ k : Nat, k < n ∧ p k = true ∧ (∀ j, j < k → p j = false) ∧ v = .int .i64 k) ∨ ((∀ j, j < n → p j = false) ∧ v = .int .i64 (-1))
set_option maxHeartbeats 400000 in
theorem indexF_i1 (r : Hp) (v : Value) (n : Nat) (xs : List Value) (fv : Value) (gf : FuncId) (cap : List Value) (H : List Ch) (p : Nat → Bool) (hv : Sl r 1 v n xs) (hfv : fv = .func (.func gf) #[] cap.toArray) (hg : GoesTo Tryz.prog gf)
    (hp : ∀ k u, k < n → xs[k]? = some u → Tri Tryz.prog r gf (u :: cap) H fun w H' => w = .bool (p k) ∧ H' = H) :
    Tri Tryz.prog r 159 [v, fv] H fun w H' => FstAt n p w ∧ H' = H := by
  obtain ⟨a, c, rfl⟩ := hv.form
  have hn := hv.2.1
  unfold maxLen at hn
  refine fn_of_sw Tryz.func159 rfl _ rfl ?_; refine aen Tryz.ntmps159 ?_
  repeat' (first | refine ax0m ?_ | (refine abb ?_; intro b) | refine ax1m ?_ | (refine aac ?_; intro ac cc) | refine ax2m ?_ | (refine ap3 ?_ ?_ <;> try intro h) | apply True.intro)
  refine sw_loop (fun g t H' => ∃ k : Nat, g = n + 1 - k ∧ k ≤ n ∧ (∀ j, j < k → p j = false) ∧ H' = H ∧ (t.length = 19 ∧ t[0]? = some (.slice a n c) ∧ t[1]? = some (fv) ∧ t[6]? = some (.slice a n c) ∧ t[7]? = some (.int .i64 n) ∧ t[8]? = some (.int .i64 k))) (n + 1) ⟨0, rfl, Nat.zero_le _, fun j hj => absurd hj (Nat.not_lt_zero _), rfl, rfl, rfl, rfl, rfl, rfl, rfl⟩ ?_
  rintro g t H' ⟨k, rfl, hk, hall, rfl, hlen, e0, e1, e6, e7, e8⟩
  revert e0 e1 e6 e7 e8; revert t; refine all_len (n := 19) ?_; intro u0 u1 u2 u3 u4 u5 u6 u7 u8 u9 u10 u11 u12 u13 u14 u15 u16 u17 u18 e0 e1 e6 e7 e8; cases e0; cases e1; cases e6; cases e7; cases e8
  have HA := hid hall
  clear hall
  by_cases hlt : k < n
  · obtain ⟨b, off, u, rfl, hu, hc⟩ := hv.at1 hlt
    have hc' := hc H'
    have HC := hid (hp k u hlt hu)
    clear hc hp hu
    subst hfv
    repeat' (first | refine ax0m ?_ | (refine abb ?_; intro b) | (with_reducible apply kx_call (f := gf) (cap := cap)); exact hg; rfl; rfl; exact HC.out; exact Takes.all; rintro v' H1 ⟨rfl, rfl⟩; rw [List.append_nil]; (refine apk ?_) | refine ax1m ?_ | (refine aac ?_; intro ac cc) | refine ax2m ?_ | (refine ap3 ?_ ?_ <;> try intro h) | apply True.intro)
    · (((with_reducible apply fp_ret); exact res_1 rfl rfl); exact ⟨.inl ⟨k, hlt, by assumption, HA.out, rfl⟩, rfl⟩)
    · refine ⟨_, ?_, k + 1, rfl, by omega, ?_, rfl, rfl, rfl, rfl, rfl, rfl, rfl⟩
      · omega
      · intro j hj
        by_cases e : j = k
        · subst e; assumption
        · exact HA.out j (by omega)
  · repeat' (first | refine ax0m ?_ | (refine abb ?_; intro b) | refine ax1m ?_ | (refine aac ?_; intro ac cc) | refine ax2m ?_ | (refine ap3 ?_ ?_ <;> try intro h) | apply True.intro)
    (((with_reducible apply fp_ret); exact res_1 rfl rfl); exact ⟨.inr ⟨fun j hj => HA.out j (by omega), rfl⟩, rfl⟩)
set_option maxHeartbeats 400000 in
theorem contF_i1 (r : Hp) (v : Value) (n : Nat) (xs : List Value) (gf : FuncId) (cap : List Value) (H : List Ch) (p : Nat → Bool) (hv : Sl r 1 v n xs) (hg : GoesTo Tryz.prog gf)
    (hp : ∀ k u, k < n → xs[k]? = some u → Tri Tryz.prog r gf (u :: cap) H fun w H' => w = .bool (p k) ∧ H' = H) :
    Tri Tryz.prog r 138 [v, .func (.func gf) #[] cap.toArray] H fun w H' => w = .bool ((List.range n).any p) ∧ H' = H := by
  have HC := hid (indexF_i1 r v n xs _ gf cap H p hv rfl hg hp)
  obtain ⟨a, c, rfl⟩ := hv.form
  clear hp hv
  refine fn_of_sw Tryz.func138 rfl _ rfl ?_; refine aen Tryz.ntmps138 ?_
  repeat' (first | refine ax0m ?_ | (refine abb ?_; intro b) | (with_reducible apply kx_call (f := 159) (cap := [])); exact goesOf Tryz.func159 (by kernel_rfl) rfl; rfl; rfl; exact HC.out; exact Takes.all; rintro v' H1 ⟨⟨k, hk, hp, hall, rfl⟩ | ⟨hall, rfl⟩, rfl⟩; all_goals (rw [List.append_nil]; (refine apk ?_)) | refine ax1m ?_ | (refine aac ?_; intro ac cc) | refine ax2m ?_ | (refine ap3 ?_ ?_ <;> try intro h) | apply True.intro)
  · ((with_reducible apply fp_ret); exact res_1 rfl rfl)
    have : (List.range n).any p = true := List.any_eq_true.2 ⟨k, by simpa using hk, hp⟩
    exact ⟨by rw [this], rfl⟩
  · ((with_reducible apply fp_ret); exact res_1 rfl rfl)
    have : (List.range n).any p = false := by
      rw [List.any_eq_false]; intro j hj; rw [hall j (by simpa using hj)]; simp
    exact ⟨by rw [this], rfl⟩
end Go.Proofs.YtkbajhiahpkgiaaGreat
