/- mudlarkkit.PostingsOf: its contract. -/
import Derived.Test.YtkbajhiahpkgiaaSq
namespace Go.Proofs.Ytkbajhiahpkgiaa
open Go.RowKit Sx

def sizeP (xs : List PostV) : Nat := (xs.map fun x => 1 + x.gram.length + x.pl.length).sum
theorem sizeP_take {xs : List PostV} {k : Nat} (h : k < xs.length) : sizeP (xs.take (k + 1)) = sizeP (xs.take k) + (1 + (xs.getD k default).gram.length + (xs.getD k default).pl.length) := by
  unfold sizeP
  rw [take_getD (d := default) h, List.map_append, List.sum_append]
  simp
theorem sizeP_le (xs : List PostV) (k : Nat) : sizeP (xs.take k) ≤ sizeP xs := by
  have e : sizeP xs = sizeP (xs.take k) + sizeP (xs.drop k) := by
    unfold sizeP
    rw [← List.sum_append, ← List.map_append, List.take_append_drop]
  omega
set_option maxRecDepth 10000 in
set_option maxHeartbeats 1000000 in
theorem postingsOf_any (r : Hp) (v : Value) (xs : List PostV) (most : Nat) (hv : Posts r v xs) (hl : ∀ x ∈ xs, x.gram.length ≤ 140737488355328 ∧ x.pl.length ≤ 140737488355328) (hm : most ≤ 1000000) : Tri Try.prog r 12 [v, .int .i64 most] [] fun w H => ∃ z : Nat, w = .int .i64 z ∧ (z ≤ most ↔ sizeP xs ≤ most) ∧ H = [] := by
  refine Tri.free2 fun R HR => ?_
  have hve := hv.1
  have hvn : xs.length ≤ maxLen := hve.2.2.1
  unfold maxLen at hvn
  refine fn_of_sw Try.func12 rfl _ rfl ?_; simp only [Try.ntmps12, List.length_cons, List.length_nil, Nat.reduceAdd, Nat.reduceSub, List.replicate_succ, List.replicate_zero, List.nil_append, List.cons_append]
  repeat' (first | (refine aw0m ?_) | (refine ap2 ?_ ?_ <;> first | exact True.intro | intro h) | (refine aw1m ?_) | (refine abx ?_; intro bb) | (refine abz ?_; intro bz) | (refine ahv ?_; intro v' hv') | (refine aac ?_; intro ac cc) | (refine aw2 ?_) | (refine ap4 ?_ ?_ <;> first | exact True.intro | intro h) | (with_reducible refine tr_two ?_ ?_))
  refine sw_loop (fun gm t H' => ∃ k : Nat, gm = xs.length + 1 - k ∧ (k ≤ xs.length) ∧ (∃ G, Takes [] H' G) ∧ (t.length = 35 ∧ t[0]? = some (v) ∧ t[1]? = some (.int .i64 most) ∧ t[5]? = some (.int .i64 (sizeP (xs.take k) : Nat)) ∧ t[6]? = some (.int .i64 k))) _ ⟨0, rfl, Nat.zero_le _, ⟨_, by (exact atks)⟩, rfl, (by first | rfl | exact congrArg some (congrArg (Value.int _) (by omega)) | (congr 2 <;> omega)), (by first | rfl | exact congrArg some (congrArg (Value.int _) (by omega)) | (congr 2 <;> omega)), (by first | rfl | exact congrArg some (congrArg (Value.int _) (by omega)) | (congr 2 <;> omega)), (by first | rfl | exact congrArg some (congrArg (Value.int _) (by omega)) | (congr 2 <;> omega))⟩ ?_
  rintro gm t H' ⟨k, rfl, hk, ⟨G, hp⟩, hlen, e0, e1, e5, e6⟩
  revert e0 e1 e5 e6; revert t; refine all_len (n := 35) ?_; iterate 35 intro uu'
  intro e0 e1 e5 e6; cases e0; cases e1; cases e5; cases e6
  refine sw_takeG hp ?_
  clear hp
  have hle := sizeP_le xs k
  by_cases hlt : k < xs.length
  · have hb := hl _ (getD_mem hlt)
    have hst := sizeP_take hlt
    have hpl := hv.2 _ (getD_mem hlt)
    by_cases hz : sizeP (xs.take k) ≤ most
    · repeat' (first | (refine aw0m ?_) | (refine ap2 ?_ ?_ <;> first | exact True.intro | intro h) | (first | ((with_reducible apply sw_draw (id := 5) 16 [(0, true), (1, true), (2, true), (3, true), (4, true), (5, true), (6, true), (7, true), (8, true), (9, true), (10, true), (11, true), (12, true), (13, true), (14, true), (15, true)] [(16, false)] []); kernel_rfl; (exact atks); kernel_rfl; intro r' hl')) | (exfalso; omega) | (refine aw1m ?_) | (refine abx ?_; intro bb) | (refine abz ?_; intro bz) | (refine ahv ?_; intro v' hv') | (refine aac ?_; intro ac cc) | (refine aw2 ?_) | (refine ap4 ?_ ?_ <;> first | exact True.intro | intro h) | (with_reducible refine tr_two ?_ ?_))
      exact ⟨_, (by omega), k + 1, rfl, by omega, ⟨_, by (exact atks)⟩, rfl, (by first | rfl | exact congrArg some (congrArg (Value.int _) (by omega)) | (congr 2 <;> omega)), (by first | rfl | exact congrArg some (congrArg (Value.int _) (by omega)) | (congr 2 <;> omega)), (by first | rfl | exact congrArg some (congrArg (Value.int _) (by omega)) | (congr 2 <;> omega)), (by first | rfl | exact congrArg some (congrArg (Value.int _) (by omega)) | (congr 2 <;> omega))⟩
    · repeat' (first | (refine aw0m ?_) | (refine ap2 ?_ ?_ <;> first | exact True.intro | intro h) | (exfalso; omega) | (refine aw1m ?_) | (refine abx ?_; intro bb) | (refine abz ?_; intro bz) | (refine ahv ?_; intro v' hv') | (refine aac ?_; intro ac cc) | (refine aw2 ?_) | (refine ap4 ?_ ?_ <;> first | exact True.intro | intro h) | (with_reducible refine tr_two ?_ ?_))
      ((with_reducible apply fp_ret); exact res_1 rfl rfl)
      exact HR.out _ _ _ [] (by (exact atks)) ⟨_, rfl, by omega, rfl⟩
  · obtain rfl : k = xs.length := by omega
    rw [List.take_length]
    repeat' (first | (refine aw0m ?_) | (refine ap2 ?_ ?_ <;> first | exact True.intro | intro h) | (exfalso; omega) | (refine aw1m ?_) | (refine abx ?_; intro bb) | (refine abz ?_; intro bz) | (refine ahv ?_; intro v' hv') | (refine aac ?_; intro ac cc) | (refine aw2 ?_) | (refine ap4 ?_ ?_ <;> first | exact True.intro | intro h) | (with_reducible refine tr_two ?_ ?_))
    ((with_reducible apply fp_ret); exact res_1 rfl rfl)
    exact HR.out _ _ _ [] (by (exact atks)) ⟨_, rfl, Iff.rfl, rfl⟩
end Go.Proofs.Ytkbajhiahpkgiaa
