
/- mudlarklaw27.within: its contract. -/
import Derived.Test.YtmnehdpclnhmbaaGreatNk
namespace Go.Proofs.YtmnehdpclnhmbaaGreat
open Go.RowKit Sx

theorem drop_getD {l : List Int} {k : Nat} (h : k < l.length) : l.drop k = l.getD k default :: l.drop (k + 1) := by
  rw [List.drop_eq_getElem_cons h, List.getD_eq_getElem?_getD, List.getElem?_eq_getElem h]; rfl
theorem withinK_cons {x : Int} {a b : List Int} : withinK (x :: a) b = match b.dropWhile fun y => decide (y < x) with | [] => false | y :: b' => decide (y = x) && withinK a (y :: b') := rfl
set_option maxRecDepth 10000 in
set_option maxHeartbeats 4000000 in
theorem within_any (r : Hp) (v w : Value) (a b : List Int) (hv : Els r 1 encJ v a) (hw : Els r 1 encJ w b) : Tri Tryz.prog r 12 [v, w] [] fun u H => u = .bool (withinK a b) ∧ H = [] := by
  refine Tri.free2 fun R HR => ?_
  have hal := maxI hv.2.2.1
  have hbl := maxI hw.2.2.1
  refine fn_of_sw Tryz.func12 rfl _ rfl ?_; refine aen Tryz.ntmps12 ?_
  repeat' (first | (exfalso; first | contradiction | omega) | refine aw0 ?_ | (refine ap2 ?_ ?_ <;> try intro h) | refine aw1 ?_ | (refine abx ?_; intro bb) | (refine abz ?_; intro bz) | (refine ahv ?_; intro v' hv') | (refine aac ?_; intro ac cc) | refine aw2 ?_ | (refine ap4 ?_ ?_ <;> try intro h) | apply True.intro)
  refine sw_loop (fun gm t H' => ∃ (k j : Nat), gm = a.length + 1 - k ∧ (k ≤ a.length) ∧ (j ≤ b.length) ∧ (withinK a b = withinK (a.drop k) (b.drop j)) ∧ (∃ G, Takes [] H' G) ∧ Sls t 45 [(0, v), (1, w), (5, .int .i64 j), (6, .int .i64 k)]) _ ⟨0, 0, rfl, Nat.zero_le _, Nat.zero_le _, rfl, ⟨[], by (exact atks)⟩, asls⟩ ?_
  rintro gm t H' ⟨k, j, rfl, hk, hj, hq, ⟨G, hp⟩, hs'⟩
  revert t; refine sls_all ?_; iterate 41 intro uu'
  refine sw_takeG hp ?_; clear hp
  by_cases hlt : k < a.length
  · obtain ⟨x, hx⟩ : ∃ x, a.getD k default = x := ⟨_, rfl⟩
    rw [drop_getD hlt, hx, withinK_cons] at hq
    repeat' (first | (exfalso; first | contradiction | omega) | refine aw0 ?_ | (refine ap2 ?_ ?_ <;> try intro h) | refine aw1 ?_ | (refine abx ?_; intro bb) | (refine abz ?_; intro bz) | (refine ahv ?_; intro v' hv') | (refine aac ?_; intro ac cc) | refine aw2 ?_ | (refine ap4 ?_ ?_ <;> try intro h) | apply True.intro)
    refine sw_loop (fun gm t H' => ∃ (i : Nat), gm = b.length + 1 - i ∧ (i ≤ b.length) ∧ ((b.drop j).dropWhile (fun y => decide (y < x)) = (b.drop i).dropWhile (fun y => decide (y < x))) ∧ (∃ G, Takes [] H' G) ∧ Sls t 45 [(0, v), (1, w), (5, .int .i64 i), (6, .int .i64 k)]) _ ⟨j, rfl, hj, rfl, ⟨[], by (exact atks)⟩, asls⟩ ?_
    rintro gm t H' ⟨i, rfl, hi, hr, ⟨G, hp⟩, hs'⟩
    revert t; refine sls_all ?_; iterate 41 intro uu'
    refine sw_takeG hp ?_; clear hp
    by_cases h1 : i < b.length
    · obtain ⟨y, hy⟩ : ∃ y, b.getD i default = y := ⟨_, rfl⟩
      rw [drop_getD h1, hy, List.dropWhile_cons] at hr
      by_cases h2 : y < x
      · rw [if_pos (decide_eq_true h2)] at hr
        repeat' (first | (rw [hx]) | (rw [hy]) | (first | ((with_reducible apply sw_draw (id := 5) 15 [(0, true), (1, true), (2, true), (3, true), (4, true), (5, true), (6, true), (7, true), (8, true), (9, true), (10, true), (11, true), (12, true), (13, true), (14, true)] [] []); kernel_rfl; (exact atks); kernel_rfl; intro r' hl') | ((with_reducible apply sw_draw (id := 7) 15 [(0, true), (1, true), (2, true), (3, true), (4, true), (5, true), (6, true), (7, true), (8, true), (9, true), (10, true), (11, true), (12, true), (13, true), (14, true)] [] []); kernel_rfl; (exact atks); kernel_rfl; intro r' hl')) | (exfalso; first | contradiction | omega) | refine aw0 ?_ | (refine ap2 ?_ ?_ <;> try intro h) | refine aw1 ?_ | (refine abx ?_; intro bb) | (refine abz ?_; intro bz) | (refine ahv ?_; intro v' hv') | (refine aac ?_; intro ac cc) | refine aw2 ?_ | (refine ap4 ?_ ?_ <;> try intro h) | apply True.intro)
        exact ⟨_, by omega, i + 1, rfl, by omega, hr, ⟨[], by (exact atks)⟩, asls⟩
      · rw [if_neg (by simpa using h2)] at hr
        rw [hr] at hq
        dsimp only at hq
        by_cases h3 : y = x
        · rw [decide_eq_true h3, Bool.true_and] at hq
          repeat' (first | (rw [hx]) | (rw [hy]) | (first | ((with_reducible apply sw_draw (id := 5) 15 [(0, true), (1, true), (2, true), (3, true), (4, true), (5, true), (6, true), (7, true), (8, true), (9, true), (10, true), (11, true), (12, true), (13, true), (14, true)] [] []); kernel_rfl; (exact atks); kernel_rfl; intro r' hl') | ((with_reducible apply sw_draw (id := 7) 15 [(0, true), (1, true), (2, true), (3, true), (4, true), (5, true), (6, true), (7, true), (8, true), (9, true), (10, true), (11, true), (12, true), (13, true), (14, true)] [] []); kernel_rfl; (exact atks); kernel_rfl; intro r' hl')) | (exfalso; first | contradiction | omega) | refine aw0 ?_ | (refine ap2 ?_ ?_ <;> try intro h) | refine aw1 ?_ | (refine abx ?_; intro bb) | (refine abz ?_; intro bz) | (refine ahv ?_; intro v' hv') | (refine aac ?_; intro ac cc) | refine aw2 ?_ | (refine ap4 ?_ ?_ <;> try intro h) | apply True.intro)
          exact ⟨_, by omega, k + 1, i, rfl, by omega, by omega, by rw [hq, drop_getD h1, hy], ⟨[], by (exact atks)⟩, asls⟩
        · rw [decide_eq_false h3, Bool.false_and] at hq
          rw [hq] at HR
          repeat' (first | (rw [hx]) | (rw [hy]) | (first | ((with_reducible apply sw_draw (id := 5) 15 [(0, true), (1, true), (2, true), (3, true), (4, true), (5, true), (6, true), (7, true), (8, true), (9, true), (10, true), (11, true), (12, true), (13, true), (14, true)] [] []); kernel_rfl; (exact atks); kernel_rfl; intro r' hl') | ((with_reducible apply sw_draw (id := 7) 15 [(0, true), (1, true), (2, true), (3, true), (4, true), (5, true), (6, true), (7, true), (8, true), (9, true), (10, true), (11, true), (12, true), (13, true), (14, true)] [] []); kernel_rfl; (exact atks); kernel_rfl; intro r' hl')) | (exfalso; first | contradiction | omega) | refine aw0 ?_ | (refine ap2 ?_ ?_ <;> try intro h) | refine aw1 ?_ | (refine abx ?_; intro bb) | (refine abz ?_; intro bz) | (refine ahv ?_; intro v' hv') | (refine aac ?_; intro ac cc) | refine aw2 ?_ | (refine ap4 ?_ ?_ <;> try intro h) | apply True.intro)
          ((with_reducible apply fp_ret); exact res_1 rfl rfl)
          exact HR.out _ _ _ [] (by (exact atks)) ⟨rfl, rfl⟩
    · rw [List.drop_of_length_le (l := b) (i := i) (by omega), List.dropWhile_nil] at hr
      rw [hr] at hq
      dsimp only at hq
      rw [hq] at HR
      repeat' (first | (rw [hx]) | (first | ((with_reducible apply sw_draw (id := 5) 15 [(0, true), (1, true), (2, true), (3, true), (4, true), (5, true), (6, true), (7, true), (8, true), (9, true), (10, true), (11, true), (12, true), (13, true), (14, true)] [] []); kernel_rfl; (exact atks); kernel_rfl; intro r' hl') | ((with_reducible apply sw_draw (id := 7) 15 [(0, true), (1, true), (2, true), (3, true), (4, true), (5, true), (6, true), (7, true), (8, true), (9, true), (10, true), (11, true), (12, true), (13, true), (14, true)] [] []); kernel_rfl; (exact atks); kernel_rfl; intro r' hl')) | (exfalso; first | contradiction | omega) | refine aw0 ?_ | (refine ap2 ?_ ?_ <;> try intro h) | refine aw1 ?_ | (refine abx ?_; intro bb) | (refine abz ?_; intro bz) | (refine ahv ?_; intro v' hv') | (refine aac ?_; intro ac cc) | refine aw2 ?_ | (refine ap4 ?_ ?_ <;> try intro h) | apply True.intro)
      ((with_reducible apply fp_ret); exact res_1 rfl rfl)
      exact HR.out _ _ _ [] (by (exact atks)) ⟨rfl, rfl⟩
  · rw [List.drop_of_length_le (l := a) (i := k) (by omega), show withinK [] (b.drop j) = true from rfl] at hq
    rw [hq] at HR
    repeat' (first | (exfalso; first | contradiction | omega) | refine aw0 ?_ | (refine ap2 ?_ ?_ <;> try intro h) | refine aw1 ?_ | (refine abx ?_; intro bb) | (refine abz ?_; intro bz) | (refine ahv ?_; intro v' hv') | (refine aac ?_; intro ac cc) | refine aw2 ?_ | (refine ap4 ?_ ?_ <;> try intro h) | apply True.intro)
    ((with_reducible apply fp_ret); exact res_1 rfl rfl)
    exact HR.out _ _ _ [] (by (exact atks)) ⟨rfl, rfl⟩
end Go.Proofs.YtmnehdpclnhmbaaGreat
