/- mudlarklaw19: great, same: their contracts. -/
import Derived.Test.YtkbajhiahpkgiaaSq
import Derived.Test.YtkbajhiahpkgiaaPk
namespace Go.Proofs.Ytkbajhiahpkgiaa
open Go.RowKit Sx

def sumR (bv : List BytV) : Nat := (bv.map fun x => x.data.length).sum
theorem sumR_take {bv : List BytV} {k : Nat} (h : k < bv.length) : sumR (bv.take (k + 1)) = sumR (bv.take k) + (bv.getD k default).data.length := by
  unfold sumR
  rw [take_getD (d := default) h, List.map_append, List.sum_append]
  simp
theorem sumR_le (bv : List BytV) (k : Nat) : sumR (bv.take k) ≤ sumR bv := by
  have e : sumR bv = sumR (bv.take k) + sumR (bv.drop k) := by
    unfold sumR
    rw [← List.sum_append, ← List.map_append, List.take_append_drop]
  omega
set_option maxRecDepth 10000 in
set_option maxHeartbeats 1000000 in
theorem great_any (r : Hp) (v : Value) (bv : List BytV) (hv : Rowz r v bv) (hn : bv.length ≤ 140737488355328) (hl : ∀ x ∈ bv, x.data.length ≤ 140737488355328) : Tri Try.prog r 19 [v] [] fun w H => w = .bool (decide (1500 < bv.length + sumR bv)) ∧ H = [] := by
  refine Tri.free2 fun R HR => ?_
  have hve := hv.1
  refine fn_of_sw Try.func19 rfl _ rfl ?_; simp only [Try.ntmps19, List.length_cons, List.length_nil, Nat.reduceAdd, Nat.reduceSub, List.replicate_succ, List.replicate_zero, List.nil_append, List.cons_append]
  repeat' (first | (refine aw0m ?_) | (refine ap2 ?_ ?_ <;> first | exact True.intro | intro h) | (refine aw1m ?_) | (refine abx ?_; intro bb) | (refine abz ?_; intro bz) | (refine ahv ?_; intro v' hv') | (refine aac ?_; intro ac cc) | (refine aw2 ?_) | (refine ap4 ?_ ?_ <;> first | exact True.intro | intro h) | (with_reducible refine tr_two ?_ ?_))
  refine sw_loop (fun gm t H' => ∃ k : Nat, gm = bv.length + 1 - k ∧ (k ≤ bv.length) ∧ (∃ G, Takes [] H' G) ∧ (t.length = 26 ∧ t[0]? = some (v) ∧ t[3]? = some (.int .i64 ((bv.length : Int) + (sumR (bv.take k) : Nat))) ∧ t[4]? = some (.int .i64 k))) _ ⟨0, rfl, Nat.zero_le _, ⟨_, by (exact atks)⟩, rfl, (by first | rfl | exact congrArg some (congrArg (Value.int _) (by omega)) | (congr 2 <;> omega)), (by first | rfl | exact congrArg some (congrArg (Value.int _) (by omega)) | (congr 2 <;> omega)), (by first | rfl | exact congrArg some (congrArg (Value.int _) (by omega)) | (congr 2 <;> omega))⟩ ?_
  rintro gm t H' ⟨k, rfl, hk, ⟨G, hp⟩, hlen, e0, e3, e4⟩
  revert e0 e3 e4; revert t; refine all_len (n := 26) ?_; iterate 26 intro uu'
  intro e0 e3 e4; cases e0; cases e3; cases e4
  refine sw_takeG hp ?_
  clear hp
  have hle := sumR_le bv k
  by_cases hlt : k < bv.length
  · have hb := hl _ (getD_mem hlt)
    have hst := sumR_take hlt
    have hpl := hv.2 _ (getD_mem hlt)
    by_cases hz : bv.length + sumR (bv.take k) ≤ 1500
    · repeat' (first | (refine aw0m ?_) | (refine ap2 ?_ ?_ <;> first | exact True.intro | intro h) | (exfalso; omega) | (refine aw1m ?_) | (refine abx ?_; intro bb) | (refine abz ?_; intro bz) | (refine ahv ?_; intro v' hv') | (refine aac ?_; intro ac cc) | (refine aw2 ?_) | (refine ap4 ?_ ?_ <;> first | exact True.intro | intro h) | (with_reducible refine tr_two ?_ ?_))
      exact ⟨_, (by omega), k + 1, rfl, by omega, ⟨_, by (exact atks)⟩, rfl, (by first | rfl | exact congrArg some (congrArg (Value.int _) (by omega)) | (congr 2 <;> omega)), (by first | rfl | exact congrArg some (congrArg (Value.int _) (by omega)) | (congr 2 <;> omega)), (by first | rfl | exact congrArg some (congrArg (Value.int _) (by omega)) | (congr 2 <;> omega))⟩
    · rw [decide_eq_true (by omega : 1500 < bv.length + sumR bv)] at HR
      repeat' (first | (refine aw0m ?_) | (refine ap2 ?_ ?_ <;> first | exact True.intro | intro h) | (exfalso; omega) | (refine aw1m ?_) | (refine abx ?_; intro bb) | (refine abz ?_; intro bz) | (refine ahv ?_; intro v' hv') | (refine aac ?_; intro ac cc) | (refine aw2 ?_) | (refine ap4 ?_ ?_ <;> first | exact True.intro | intro h) | (with_reducible refine tr_two ?_ ?_))
      ((with_reducible apply fp_ret); exact res_1 rfl rfl)
      refine HR.out _ _ _ [] (by (exact atks)) ⟨?_, rfl⟩
      congr 1
      simp only [decide_eq_true_eq]
      omega
  · obtain rfl : k = bv.length := by omega
    rw [List.take_length]
    repeat' (first | (refine aw0m ?_) | (refine ap2 ?_ ?_ <;> first | exact True.intro | intro h) | (exfalso; omega) | (refine aw1m ?_) | (refine abx ?_; intro bb) | (refine abz ?_; intro bz) | (refine ahv ?_; intro v' hv') | (refine aac ?_; intro ac cc) | (refine aw2 ?_) | (refine ap4 ?_ ?_ <;> first | exact True.intro | intro h) | (with_reducible refine tr_two ?_ ?_))
    ((with_reducible apply fp_ret); exact res_1 rfl rfl)
    refine HR.out _ _ _ [] (by (exact atks)) ⟨?_, rfl⟩
    congr 1
    simp only [decide_eq_decide]
    omega
theorem same19_any (r : Hp) (v w : Value) (l m : List PlaceV) (hv : Els r 2 encPl v l) (hw : Els r 2 encPl w m) : Tri Try.prog r 17 [v, w] [] fun u H => u = .bool (decide (l = m)) ∧ H = [] := by
  refine Tri.free2 fun R HR => ?_
  have hs := samePlaces_any r v w l m hv hw
  refine fn_of_sw Try.func17 rfl _ rfl ?_; simp only [Try.ntmps17, List.length_cons, List.length_nil, Nat.reduceAdd, Nat.reduceSub, List.replicate_succ, List.replicate_zero, List.nil_append, List.cons_append]
  repeat' (first | (refine aw0m ?_) | (refine ap2 ?_ ?_ <;> first | exact True.intro | intro h) | ((with_reducible apply kx_call (f := 47) (cap := [])); exact goesOf Try.func47 (by kernel_rfl) rfl; rfl; rfl; exact (hs); (exact atks); rintro v' H' ⟨rfl, rfl⟩; all_goals ((try simp only [List.nil_append]); (refine apk ?_))) | (refine aw1m ?_) | (refine abx ?_; intro bb) | (refine abz ?_; intro bz) | (refine ahv ?_; intro v' hv') | (refine aac ?_; intro ac cc) | (refine aw2 ?_) | (refine ap4 ?_ ?_ <;> first | exact True.intro | intro h) | (with_reducible refine tr_two ?_ ?_))
  ((with_reducible apply fp_ret); exact res_1 rfl rfl)
  exact HR.out _ _ _ [] (by (exact atks)) ⟨rfl, rfl⟩
end Go.Proofs.Ytkbajhiahpkgiaa
