/- mudlarkkit: SamePlaces, SamePosting, SamePostings, PostingsOf; post.From's comparisons: their contracts. -/
import Derived.Test.YtkbajhiahpkgiaaSm
import Derived.Test.YtkbajhiahpkgiaaPf
namespace Go.Proofs.Ytkbajhiahpkgiaa
open Go.RowKit Sx

set_option maxRecDepth 10000 in
set_option maxHeartbeats 1000000 in
theorem samePlaces_any (r : Hp) (v w : Value) (l m : List PlaceV) (hv : Els r 2 encPl v l) (hw : Els r 2 encPl w m) : Tri Try.prog r 47 [v, w] [] fun u H => u = .bool (decide (l = m)) ∧ H = [] := by
  refine Tri.free2 fun R HR => ?_
  have hlm := maxI hv.2.2.1
  refine fn_of_sw Try.func47 rfl _ rfl ?_; simp only [Try.ntmps47, List.length_cons, List.length_nil, Nat.reduceAdd, Nat.reduceSub, List.replicate_succ, List.replicate_zero, List.nil_append, List.cons_append]
  repeat' (first | (refine aw0m ?_) | (refine ap2 ?_ ?_ <;> first | exact True.intro | intro h) | (refine aw1m ?_) | (refine abx ?_; intro bb) | (refine abz ?_; intro bz) | (refine ahv ?_; intro v' hv') | (refine aac ?_; intro ac cc) | (refine aw2 ?_) | (refine ap4 ?_ ?_ <;> first | exact True.intro | intro h) | (with_reducible refine tr_two ?_ ?_))
  · ((with_reducible apply fp_ret); exact res_1 rfl rfl)
    exact HR.out _ _ _ [] (by (exact atks)) ⟨by rw [decide_eq_false]; rintro rfl; exact h rfl, rfl⟩
  · refine sw_loop (fun gm t H' => ∃ k : Nat, gm = l.length + 1 - k ∧ (k ≤ l.length) ∧ (l.take k = m.take k) ∧ (∃ G, Takes [] H' G) ∧ (t.length = 26 ∧ t[0]? = some (v) ∧ t[1]? = some (w) ∧ t[5]? = some (.int .i64 k))) _ ⟨0, rfl, Nat.zero_le _, by simp, ⟨[], by (exact atks)⟩, rfl, (by first | rfl | exact congrArg some (congrArg (Value.int _) (by omega)) | (congr 2 <;> omega)), (by first | rfl | exact congrArg some (congrArg (Value.int _) (by omega)) | (congr 2 <;> omega)), (by first | rfl | exact congrArg some (congrArg (Value.int _) (by omega)) | (congr 2 <;> omega))⟩ ?_
    rintro gm t H' ⟨k, rfl, hk, ht, ⟨G, hp⟩, hlen, e0, e1, e5⟩
    revert e0 e1 e5; revert t; refine all_len (n := 26) ?_; iterate 26 intro uu'
    intro e0 e1 e5; cases e0; cases e1; cases e5
    refine sw_takeG hp ?_
    clear hp
    repeat' (first | (refine aw0m ?_) | (refine ap2 ?_ ?_ <;> first | exact True.intro | intro h) | (first | ((with_reducible apply sw_draw (id := 6) 9 [(0, true), (1, true), (2, true), (3, true), (4, true), (5, true), (6, true), (7, true), (8, true)] [] []); kernel_rfl; (exact atks); kernel_rfl; intro r' hl')) | (refine aw1m ?_) | (refine abx ?_; intro bb) | (refine abz ?_; intro bz) | (refine ahv ?_; intro v' hv') | (refine aac ?_; intro ac cc) | (refine aw2 ?_) | (refine ap4 ?_ ?_ <;> first | exact True.intro | intro h) | (with_reducible refine tr_two ?_ ?_))
    · ((with_reducible apply fp_ret); exact res_1 rfl rfl)
      exact HR.out _ _ _ [] (by (exact atks)) ⟨by rw [decide_eq_false]; rintro rfl; simp at h, rfl⟩
    · exact ⟨_, (by omega), k + 1, rfl, by omega, take_eqD (d := default) ht (by omega) (by omega) (PlaceV.ext2 h.1 h.2), ⟨_, by (exact atks)⟩, rfl, (by first | rfl | exact congrArg some (congrArg (Value.int _) (by omega)) | (congr 2 <;> omega)), (by first | rfl | exact congrArg some (congrArg (Value.int _) (by omega)) | (congr 2 <;> omega)), (by first | rfl | exact congrArg some (congrArg (Value.int _) (by omega)) | (congr 2 <;> omega))⟩
    · ((with_reducible apply fp_ret); exact res_1 rfl rfl)
      exact HR.out _ _ _ [] (by (exact atks)) ⟨by rw [decide_eq_true (take_all2 ht (by omega) (by omega))], rfl⟩
def cmpG (a b : List UInt8) : Int := if Op.bytesLess a b then -1 else if a = b then 0 else 1
theorem from1_any (r : Hp) (x : PostV) (g : List UInt8) : Tri Try.prog r 44 [.agg (encPo x).toArray, .string (bs g)] [] fun w H => w = .int .i64 (cmpG x.gram g) ∧ H = [] := by
  refine Tri.free2 fun R HR => ?_
  unfold cmpG at HR
  cases h1 : Op.bytesLess x.gram g
  · rw [h1, if_neg (by simp)] at HR
    by_cases h2 : x.gram = g
    · rw [if_pos h2] at HR
      refine fn_of_sw Try.func44 rfl _ rfl ?_; simp only [Try.ntmps44, List.length_cons, List.length_nil, Nat.reduceAdd, Nat.reduceSub, List.replicate_succ, List.replicate_zero, List.nil_append, List.cons_append]
      repeat' (first | (refine aw0m ?_) | (refine ap2 ?_ ?_ <;> first | exact True.intro | intro h) | (exfalso; first | contradiction | simp_all; done) | (refine aw1m ?_) | (refine abx ?_; intro bb) | (refine abz ?_; intro bz) | (refine ahv ?_; intro v' hv') | (refine aac ?_; intro ac cc) | (refine aw2 ?_) | (refine ap4 ?_ ?_ <;> first | exact True.intro | intro h) | (with_reducible refine tr_two ?_ ?_))
      ((with_reducible apply fp_ret); exact res_1 rfl rfl)
      exact HR.out _ _ _ [] Takes.all ⟨rfl, rfl⟩
    · rw [if_neg h2] at HR
      refine fn_of_sw Try.func44 rfl _ rfl ?_; simp only [Try.ntmps44, List.length_cons, List.length_nil, Nat.reduceAdd, Nat.reduceSub, List.replicate_succ, List.replicate_zero, List.nil_append, List.cons_append]
      repeat' (first | (refine aw0m ?_) | (refine ap2 ?_ ?_ <;> first | exact True.intro | intro h) | (exfalso; first | contradiction | simp_all; done) | (refine aw1m ?_) | (refine abx ?_; intro bb) | (refine abz ?_; intro bz) | (refine ahv ?_; intro v' hv') | (refine aac ?_; intro ac cc) | (refine aw2 ?_) | (refine ap4 ?_ ?_ <;> first | exact True.intro | intro h) | (with_reducible refine tr_two ?_ ?_))
      ((with_reducible apply fp_ret); exact res_1 rfl rfl)
      exact HR.out _ _ _ [] Takes.all ⟨rfl, rfl⟩
  · rw [h1, if_pos rfl] at HR
    refine fn_of_sw Try.func44 rfl _ rfl ?_; simp only [Try.ntmps44, List.length_cons, List.length_nil, Nat.reduceAdd, Nat.reduceSub, List.replicate_succ, List.replicate_zero, List.nil_append, List.cons_append]
    repeat' (first | (refine aw0m ?_) | (refine ap2 ?_ ?_ <;> first | exact True.intro | intro h) | (exfalso; first | contradiction | simp_all; done) | (refine aw1m ?_) | (refine abx ?_; intro bb) | (refine abz ?_; intro bz) | (refine ahv ?_; intro v' hv') | (refine aac ?_; intro ac cc) | (refine aw2 ?_) | (refine ap4 ?_ ?_ <;> first | exact True.intro | intro h) | (with_reducible refine tr_two ?_ ?_))
    ((with_reducible apply fp_ret); exact res_1 rfl rfl)
    exact HR.out _ _ _ [] Takes.all ⟨rfl, rfl⟩
theorem from2_any (r : Hp) (p : PlaceV) (d : Int) : Tri Try.prog r 46 [.agg (encPl p).toArray, .int .i64 d] [] fun w H => w = .int .i64 (if p.doc < d then -1 else 1) ∧ H = [] := by
  refine Tri.free2 fun R HR => ?_
  by_cases h0 : p.doc < d
  · rw [if_pos h0] at HR
    refine fn_of_sw Try.func46 rfl _ rfl ?_; simp only [Try.ntmps46, List.length_cons, List.length_nil, Nat.reduceAdd, Nat.reduceSub, List.replicate_succ, List.replicate_zero, List.nil_append, List.cons_append]
    repeat' (first | (refine aw0m ?_) | (refine ap2 ?_ ?_ <;> first | exact True.intro | intro h) | (refine aw1m ?_) | (refine abx ?_; intro bb) | (refine abz ?_; intro bz) | (refine ahv ?_; intro v' hv') | (refine aac ?_; intro ac cc) | (refine aw2 ?_) | (refine ap4 ?_ ?_ <;> first | exact True.intro | intro h) | (with_reducible refine tr_two ?_ ?_))
    ((with_reducible apply fp_ret); exact res_1 rfl rfl)
    exact HR.out _ _ _ [] Takes.all ⟨rfl, rfl⟩
  · rw [if_neg h0] at HR
    refine fn_of_sw Try.func46 rfl _ rfl ?_; simp only [Try.ntmps46, List.length_cons, List.length_nil, Nat.reduceAdd, Nat.reduceSub, List.replicate_succ, List.replicate_zero, List.nil_append, List.cons_append]
    repeat' (first | (refine aw0m ?_) | (refine ap2 ?_ ?_ <;> first | exact True.intro | intro h) | (refine aw1m ?_) | (refine abx ?_; intro bb) | (refine abz ?_; intro bz) | (refine ahv ?_; intro v' hv') | (refine aac ?_; intro ac cc) | (refine aw2 ?_) | (refine ap4 ?_ ?_ <;> first | exact True.intro | intro h) | (with_reducible refine tr_two ?_ ?_))
    ((with_reducible apply fp_ret); exact res_1 rfl rfl)
    exact HR.out _ _ _ [] Takes.all ⟨rfl, rfl⟩
theorem samePosting_any (r : Hp) (x y : PostV) (hx : Els r 2 encPl x.val x.pl) (hy : Els r 2 encPl y.val y.pl) : Tri Try.prog r 42 [.agg (encPo x).toArray, .agg (encPo y).toArray] [] fun w H => w = .bool (decide (unP x = unP y)) ∧ H = [] := by
  refine Tri.free2 fun R HR => ?_
  have hs := samePlaces_any r x.val y.val x.pl y.pl hx hy
  by_cases h1 : x.gram = y.gram
  · by_cases h2 : x.pl = y.pl
    · rw [decide_eq_true (show unP x = unP y by unfold unP; rw [h1, h2])] at HR
      rw [decide_eq_true h2] at hs
      refine fn_of_sw Try.func42 rfl _ rfl ?_; simp only [Try.ntmps42, List.length_cons, List.length_nil, Nat.reduceAdd, Nat.reduceSub, List.replicate_succ, List.replicate_zero, List.nil_append, List.cons_append]
      repeat' (first | (refine aw0m ?_) | (refine ap2 ?_ ?_ <;> first | exact True.intro | intro h) | ((with_reducible apply kx_call (f := 47) (cap := [])); exact goesOf Try.func47 (by kernel_rfl) rfl; rfl; rfl; exact (hs); (exact atks); rintro v' H' ⟨rfl, rfl⟩; all_goals ((try simp only [List.nil_append]); (refine apk ?_))) | (exfalso; contradiction) | (refine aw1m ?_) | (refine abx ?_; intro bb) | (refine abz ?_; intro bz) | (refine ahv ?_; intro v' hv') | (refine aac ?_; intro ac cc) | (refine aw2 ?_) | (refine ap4 ?_ ?_ <;> first | exact True.intro | intro h) | (with_reducible refine tr_two ?_ ?_))
      ((with_reducible apply fp_ret); exact res_1 rfl rfl)
      exact HR.out _ _ _ [] Takes.all ⟨rfl, rfl⟩
    · rw [decide_eq_false (show ¬ unP x = unP y from fun e => h2 (congrArg (·.2) e))] at HR
      rw [decide_eq_false h2] at hs
      refine fn_of_sw Try.func42 rfl _ rfl ?_; simp only [Try.ntmps42, List.length_cons, List.length_nil, Nat.reduceAdd, Nat.reduceSub, List.replicate_succ, List.replicate_zero, List.nil_append, List.cons_append]
      repeat' (first | (refine aw0m ?_) | (refine ap2 ?_ ?_ <;> first | exact True.intro | intro h) | ((with_reducible apply kx_call (f := 47) (cap := [])); exact goesOf Try.func47 (by kernel_rfl) rfl; rfl; rfl; exact (hs); (exact atks); rintro v' H' ⟨rfl, rfl⟩; all_goals ((try simp only [List.nil_append]); (refine apk ?_))) | (exfalso; contradiction) | (refine aw1m ?_) | (refine abx ?_; intro bb) | (refine abz ?_; intro bz) | (refine ahv ?_; intro v' hv') | (refine aac ?_; intro ac cc) | (refine aw2 ?_) | (refine ap4 ?_ ?_ <;> first | exact True.intro | intro h) | (with_reducible refine tr_two ?_ ?_))
      ((with_reducible apply fp_ret); exact res_1 rfl rfl)
      exact HR.out _ _ _ [] Takes.all ⟨rfl, rfl⟩
  · rw [decide_eq_false (show ¬ unP x = unP y from fun e => h1 (congrArg (·.1) e))] at HR
    refine fn_of_sw Try.func42 rfl _ rfl ?_; simp only [Try.ntmps42, List.length_cons, List.length_nil, Nat.reduceAdd, Nat.reduceSub, List.replicate_succ, List.replicate_zero, List.nil_append, List.cons_append]
    repeat' (first | (refine aw0m ?_) | (refine ap2 ?_ ?_ <;> first | exact True.intro | intro h) | (exfalso; contradiction) | (refine aw1m ?_) | (refine abx ?_; intro bb) | (refine abz ?_; intro bz) | (refine ahv ?_; intro v' hv') | (refine aac ?_; intro ac cc) | (refine aw2 ?_) | (refine ap4 ?_ ?_ <;> first | exact True.intro | intro h) | (with_reducible refine tr_two ?_ ?_))
    ((with_reducible apply fp_ret); exact res_1 rfl rfl)
    exact HR.out _ _ _ [] Takes.all ⟨rfl, rfl⟩
theorem map_getD {xs : List PostV} {k : Nat} (h : k < xs.length) : (xs.map unP).getD k default = unP (xs.getD k default) := by
  rw [List.getD_eq_getElem?_getD, List.getD_eq_getElem?_getD, List.getElem?_map, List.getElem?_eq_getElem h]; rfl
set_option maxRecDepth 10000 in
set_option maxHeartbeats 1000000 in
theorem samePostings_any (r : Hp) (v w : Value) (xs ys : List PostV) (hv : Posts r v xs) (hw : Posts r w ys) : Tri Try.prog r 15 [v, w] [] fun u H => u = .bool (decide (xs.map unP = ys.map unP)) ∧ H = [] := by
  refine Tri.free2 fun R HR => ?_
  have hlm := maxI hv.1.2.2.1
  have hve := hv.1
  have hwe := hw.1
  refine fn_of_sw Try.func15 rfl _ rfl ?_; simp only [Try.ntmps15, List.length_cons, List.length_nil, Nat.reduceAdd, Nat.reduceSub, List.replicate_succ, List.replicate_zero, List.nil_append, List.cons_append]
  repeat' (first | (refine aw0m ?_) | (refine ap2 ?_ ?_ <;> first | exact True.intro | intro h) | (refine aw1m ?_) | (refine abx ?_; intro bb) | (refine abz ?_; intro bz) | (refine ahv ?_; intro v' hv') | (refine aac ?_; intro ac cc) | (refine aw2 ?_) | (refine ap4 ?_ ?_ <;> first | exact True.intro | intro h) | (with_reducible refine tr_two ?_ ?_))
  · ((with_reducible apply fp_ret); exact res_1 rfl rfl)
    exact HR.out _ _ _ [] (by (exact atks)) ⟨by rw [decide_eq_false]; intro e; have := congrArg List.length e; simp at this; omega, rfl⟩
  · refine sw_loop (fun gm t H' => ∃ k : Nat, gm = xs.length + 1 - k ∧ (k ≤ xs.length) ∧ ((xs.map unP).take k = (ys.map unP).take k) ∧ (∃ G, Takes [] H' G) ∧ (t.length = 27 ∧ t[0]? = some (v) ∧ t[1]? = some (w) ∧ t[5]? = some (.int .i64 k))) _ ⟨0, rfl, Nat.zero_le _, by simp, ⟨[], by (exact atks)⟩, rfl, (by first | rfl | exact congrArg some (congrArg (Value.int _) (by omega)) | (congr 2 <;> omega)), (by first | rfl | exact congrArg some (congrArg (Value.int _) (by omega)) | (congr 2 <;> omega)), (by first | rfl | exact congrArg some (congrArg (Value.int _) (by omega)) | (congr 2 <;> omega))⟩ ?_
    rintro gm t H' ⟨k, rfl, hk, ht, ⟨G, hp⟩, hlen, e0, e1, e5⟩
    revert e0 e1 e5; revert t; refine all_len (n := 27) ?_; iterate 27 intro uu'
    intro e0 e1 e5; cases e0; cases e1; cases e5
    refine sw_takeG hp ?_
    clear hp
    by_cases hlt : k < xs.length
    · have h1 := hv.2 _ (getD_mem hlt)
      have hlt2 : k < ys.length := by omega
      have h2 := hw.2 _ (getD_mem hlt2)
      have hsp := fun r' (hr : sub r r') => samePosting_any r' (xs.getD k default) (ys.getD k default) (h1.mono hr) (h2.mono hr)
      by_cases he : unP (xs.getD k default) = unP (ys.getD k default)
      · rw [decide_eq_true he] at hsp
        repeat' (first | (refine aw0m ?_) | (refine ap2 ?_ ?_ <;> first | exact True.intro | intro h) | (first | ((with_reducible apply sw_draw (id := 6) 10 [(0, true), (1, true), (2, true), (3, true), (4, true), (5, true), (6, true), (7, true), (8, false), (9, true)] [] []); kernel_rfl; (exact atks); kernel_rfl; intro r' hl')) | ((with_reducible apply kx_call (f := 42) (cap := [])); exact goesOf Try.func42 (by kernel_rfl) rfl; rfl; rfl; exact (hsp _ hl'.1); (exact atks); rintro v' H' ⟨rfl, rfl⟩; all_goals ((try simp only [List.nil_append]); (refine apk ?_))) | (exfalso; contradiction) | (refine aw1m ?_) | (refine abx ?_; intro bb) | (refine abz ?_; intro bz) | (refine ahv ?_; intro v' hv') | (refine aac ?_; intro ac cc) | (refine aw2 ?_) | (refine ap4 ?_ ?_ <;> first | exact True.intro | intro h) | (with_reducible refine tr_two ?_ ?_))
        exact ⟨_, (by omega), k + 1, rfl, by omega, take_eqD (d := default) ht (by rw [List.length_map]; omega) (by rw [List.length_map]; omega) (by rw [map_getD hlt, map_getD hlt2, he]), ⟨_, by (exact atks)⟩, rfl, (by first | rfl | exact congrArg some (congrArg (Value.int _) (by omega)) | (congr 2 <;> omega)), (by first | rfl | exact congrArg some (congrArg (Value.int _) (by omega)) | (congr 2 <;> omega)), (by first | rfl | exact congrArg some (congrArg (Value.int _) (by omega)) | (congr 2 <;> omega))⟩
      · rw [decide_eq_false he] at hsp
        repeat' (first | (refine aw0m ?_) | (refine ap2 ?_ ?_ <;> first | exact True.intro | intro h) | (first | ((with_reducible apply sw_draw (id := 6) 10 [(0, true), (1, true), (2, true), (3, true), (4, true), (5, true), (6, true), (7, true), (8, false), (9, true)] [] []); kernel_rfl; (exact atks); kernel_rfl; intro r' hl')) | ((with_reducible apply kx_call (f := 42) (cap := [])); exact goesOf Try.func42 (by kernel_rfl) rfl; rfl; rfl; exact (hsp _ hl'.1); (exact atks); rintro v' H' ⟨rfl, rfl⟩; all_goals ((try simp only [List.nil_append]); (refine apk ?_))) | (exfalso; contradiction) | (refine aw1m ?_) | (refine abx ?_; intro bb) | (refine abz ?_; intro bz) | (refine ahv ?_; intro v' hv') | (refine aac ?_; intro ac cc) | (refine aw2 ?_) | (refine ap4 ?_ ?_ <;> first | exact True.intro | intro h) | (with_reducible refine tr_two ?_ ?_))
        ((with_reducible apply fp_ret); exact res_1 rfl rfl)
        exact HR.out _ _ _ [] Takes.all ⟨by rw [decide_eq_false]; intro e; apply he; rw [← map_getD hlt, ← map_getD hlt2, e], rfl⟩
    · repeat' (first | (refine aw0m ?_) | (refine ap2 ?_ ?_ <;> first | exact True.intro | intro h) | (refine aw1m ?_) | (refine abx ?_; intro bb) | (refine abz ?_; intro bz) | (refine ahv ?_; intro v' hv') | (refine aac ?_; intro ac cc) | (refine aw2 ?_) | (refine ap4 ?_ ?_ <;> first | exact True.intro | intro h) | (with_reducible refine tr_two ?_ ?_))
      ((with_reducible apply fp_ret); exact res_1 rfl rfl)
      exact HR.out _ _ _ [] (by (exact atks)) ⟨by rw [decide_eq_true (take_all2 ht (by rw [List.length_map]; omega) (by rw [List.length_map]; omega))], rfl⟩
end Go.Proofs.Ytkbajhiahpkgiaa
