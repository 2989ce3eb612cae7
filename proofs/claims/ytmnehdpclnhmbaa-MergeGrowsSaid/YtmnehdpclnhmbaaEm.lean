
/- slices.IndexFunc and ContainsFunc over files and docs. -/
import Derived.Test.YtmnehdpclnhmbaaEl
namespace Go.Proofs.Ytmnehdpclnhmbaa
open Go.RowKit Sx

set_option maxHeartbeats 400000 in
theorem indexFile_any (r : Hp) (v : Value) (xs : List FileV) (fv : Value) (gf : FuncId) (cap : List Value) (H : List Ch) (q : FileV → Bool) (hv : Els r 2 encF v xs) (hfv : fv = .func (.func gf) #[] cap.toArray) (hg : GoesTo Try.prog gf)
    (hp : ∀ k (hk : k < xs.length), Tri Try.prog r gf (.agg (encF xs[k]).toArray :: cap) H fun w H' => w = .bool (q xs[k]) ∧ H' = H) :
    Tri Try.prog r 51 [v, fv] H fun w H' => w = .int .i64 (idx (xs.findIdx? q)) ∧ H' = H := by
  obtain ⟨a, c, rfl⟩ := hv.form
  have hn := hv.2.2.1
  unfold maxLen at hn
  obtain ⟨n, hln⟩ : ∃ n, xs.length = n := ⟨_, rfl⟩
  rw [hln] at hn hv ⊢
  have HLN := hid hln
  clear hln
  refine fn_of_sw Try.func51 rfl _ rfl ?_; refine aen Try.ntmps51 ?_
  repeat' (first | refine ax0m ?_ | (refine abb ?_; intro b) | refine ax1m ?_ | (refine aac ?_; intro ac cc) | refine ax2m ?_ | (refine ap3 ?_ ?_ <;> try intro h) | apply True.intro)
  refine sw_loop (fun g t H' => ∃ k : Nat, g = n + 1 - k ∧ k ≤ n ∧ (xs.take k).findIdx? q = none ∧ H' = H ∧ (t.length = 19 ∧ t[0]? = some (.slice a n c) ∧ t[1]? = some (fv) ∧ t[6]? = some (.slice a n c) ∧ t[7]? = some (.int .i64 n) ∧ t[8]? = some (.int .i64 k))) (n + 1) ⟨0, rfl, Nat.zero_le _, by simp, rfl, rfl, rfl, rfl, rfl, rfl, rfl⟩ ?_
  rintro g t H' ⟨k, rfl, hk, hall, rfl, hlen, e0, e1, e6, e7, e8⟩
  revert e0 e1 e6 e7 e8; revert t; refine all_len (n := 19) ?_; intro u0 u1 u2 u3 u4 u5 u6 u7 u8 u9 u10 u11 u12 u13 u14 u15 u16 u17 u18 e0 e1 e6 e7 e8; cases e0; cases e1; cases e6; cases e7; cases e8
  have HA := hid hall
  clear hall
  by_cases hlt : k < n
  · have hkx : k < xs.length := by rw [HLN.out]; exact hlt
    obtain ⟨b, off, rfl, hc⟩ := hv.at hkx HLN.out
    obtain ⟨x, hx⟩ : ∃ x, xs[k] = x := ⟨_, rfl⟩
    have hq := hp k hkx
    rw [hx] at hq hc
    have hc' := hc r H' (fun _ _ h => h)
    obtain ⟨y, hy⟩ : ∃ y, q x = y := ⟨_, rfl⟩
    rw [hy] at hq
    have HC := hid hq
    have HX := hid hx
    have HY := hid hy
    clear hc hp hq hx hy
    subst hfv
    unfold encF at hc' HC
    cases y
    · repeat' (first | refine ax0m ?_ | (refine abb ?_; intro b) | (with_reducible apply kx_call (f := gf) (cap := cap)); exact hg; rfl; rfl; exact HC.out; exact Takes.all; rintro v' H1 ⟨rfl, rfl⟩; rw [List.append_nil]; (refine apk ?_) | refine ax1m ?_ | (refine aac ?_; intro ac cc) | refine ax2m ?_ | (refine ap3 ?_ ?_ <;> try intro h) | apply True.intro)
      refine ⟨_, by omega, k + 1, rfl, by omega, ?_, rfl, rfl, rfl, rfl, rfl, rfl, rfl⟩
      rw [find_app hkx HA.out, HX.out, HY.out]; rfl
    · repeat' (first | refine ax0m ?_ | (refine abb ?_; intro b) | (with_reducible apply kx_call (f := gf) (cap := cap)); exact hg; rfl; rfl; exact HC.out; exact Takes.all; rintro v' H1 ⟨rfl, rfl⟩; rw [List.append_nil]; (refine apk ?_) | refine ax1m ?_ | (refine aac ?_; intro ac cc) | refine ax2m ?_ | (refine ap3 ?_ ?_ <;> try intro h) | apply True.intro)
      ((with_reducible apply fp_ret); exact res_1 rfl rfl)
      exact ⟨by rw [find_fst hkx HA.out (by rw [HX.out]; exact HY.out)]; rfl, rfl⟩
  · rw [List.take_of_length_le (by rw [HLN.out]; omega)] at HA
    repeat' (first | refine ax0m ?_ | (refine abb ?_; intro b) | refine ax1m ?_ | (refine aac ?_; intro ac cc) | refine ax2m ?_ | (refine ap3 ?_ ?_ <;> try intro h) | apply True.intro)
    ((with_reducible apply fp_ret); exact res_1 rfl rfl)
    exact ⟨by rw [HA.out]; rfl, rfl⟩
set_option maxHeartbeats 400000 in
theorem contFile_any (r : Hp) (v : Value) (xs : List FileV) (gf : FuncId) (cap : List Value) (H : List Ch) (q : FileV → Bool) (hv : Els r 2 encF v xs) (hg : GoesTo Try.prog gf)
    (hp : ∀ k (hk : k < xs.length), Tri Try.prog r gf (.agg (encF xs[k]).toArray :: cap) H fun w H' => w = .bool (q xs[k]) ∧ H' = H) :
    Tri Try.prog r 27 [v, .func (.func gf) #[] cap.toArray] H fun w H' => w = .bool (xs.any q) ∧ H' = H := by
  have hi := indexFile_any r v xs _ gf cap H q hv rfl hg hp
  obtain ⟨a, c, rfl⟩ := hv.form
  have e : xs.any q = (xs.findIdx? q).isSome := by rw [List.findIdx?_isSome]
  rw [e]
  obtain ⟨o, ho⟩ : ∃ o, xs.findIdx? q = o := ⟨_, rfl⟩
  rw [ho] at hi ⊢
  have HC := hid hi
  clear hp hv hi e ho
  cases o
  all_goals
    refine fn_of_sw Try.func27 rfl _ rfl ?_; refine aen Try.ntmps27 ?_
    repeat' (first | refine ax0m ?_ | (refine abb ?_; intro b) | (with_reducible apply kx_call (f := 51) (cap := [])); exact goesOf Try.func51 (by kernel_rfl) rfl; rfl; rfl; exact HC.out; exact Takes.all; rintro v' H1 ⟨rfl, rfl⟩; all_goals (rw [List.append_nil]; unfold idx; (refine apk ?_)) | refine ax1m ?_ | (refine aac ?_; intro ac cc) | refine ax2m ?_ | (refine ap3 ?_ ?_ <;> try intro h) | apply True.intro)
    ((with_reducible apply fp_ret); exact res_1 rfl rfl)
    first
    | exact ⟨rfl, rfl⟩
    | exact ⟨by congr 1; simp, rfl⟩
end Go.Proofs.Ytmnehdpclnhmbaa
