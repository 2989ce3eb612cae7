/- mudlarkkit: flat.. of no list: their contracts. -/
import Derived.Test.YtfgkhkpngnhimaaGreatKi
namespace Go.Proofs.YtfgkhkpngnhimaaGreat
open Go.RowKit Sx

set_option maxRecDepth 10000 in
set_option maxHeartbeats 1000000 in
theorem flatLimbs_nil (r : Hp) : Tri Tryz.prog r 70 [.slice none 0 0] [] fun w H => w = .bool true ∧ H = [] := by
  refine Tri.free2 fun R HR => ?_
  refine fn_of_sw Tryz.func70 rfl _ rfl ?_; simp only [Tryz.ntmps70, List.length_cons, List.length_nil, Nat.reduceAdd, Nat.reduceSub, List.replicate_succ, List.replicate_zero, List.nil_append, List.cons_append]
  repeat' (first | (refine aw0m ?_) | (refine ap2 ?_ ?_ <;> first | exact True.intro | intro h) | (refine aw1m ?_) | (refine abx ?_; intro bb) | (refine abz ?_; intro bz) | (refine ahv ?_; intro v' hv') | (refine aac ?_; intro ac cc) | (refine aw2 ?_) | (refine ap4 ?_ ?_ <;> first | exact True.intro | intro h) | (with_reducible refine tr_two ?_ ?_))
  refine sw_loop (fun gm t H' => gm = 1 ∧ (∃ G, Takes [] H' G) ∧ (t.length = 200 ∧ t[0]? = some (.slice none 0 0) ∧ t[3]? = some (.int .i64 0))) _ ⟨rfl, ⟨[], by (exact atks)⟩, rfl, (by first | rfl | exact congrArg some (congrArg (Value.int _) (by omega)) | (congr 2 <;> omega)), (by first | rfl | exact congrArg some (congrArg (Value.int _) (by omega)) | (congr 2 <;> omega))⟩ ?_
  rintro gm t H' ⟨rfl, ⟨G, hp⟩, hlen, e0, e3⟩
  revert e0 e3; revert t; refine all_len (n := 200) ?_; iterate 200 intro uu'
  intro e0 e3; cases e0; cases e3
  refine sw_takeG hp ?_
  clear hp
  repeat' (first | ((with_reducible apply kx_make0 (c := 0)); exact ty_el; exact ty_inf; rfl; rfl; (omega); (omega); intro bm; (refine apk ?_)) | (refine aw0 ?_) | (refine ap2 ?_ ?_ <;> first | exact True.intro | intro h) | (refine aw1 ?_) | (refine abx ?_; intro bb) | (refine abz ?_; intro bz) | (refine ahv ?_; intro v' hv') | (refine aac ?_; intro ac cc) | (refine aw2 ?_) | (refine ap4 ?_ ?_ <;> first | exact True.intro | intro h) | (with_reducible refine tr_two ?_ ?_))
  refine sw_loop (fun gm t H' => gm = 1 ∧ (∃ G, Takes [] H' G) ∧ (t.length = 200 ∧ t[0]? = some (.slice none 0 0) ∧ t[5]? = some (.slice (some ⟨bm, 0, none⟩) 0 0) ∧ t[6]? = some (.int .i64 0))) _ ⟨rfl, ⟨_, by (exact atks)⟩, rfl, (by first | rfl | exact congrArg some (congrArg (Value.int _) (by omega)) | (congr 2 <;> omega)), (by first | rfl | exact congrArg some (congrArg (Value.int _) (by omega)) | (congr 2 <;> omega)), (by first | rfl | exact congrArg some (congrArg (Value.int _) (by omega)) | (congr 2 <;> omega))⟩ ?_
  rintro gm t H' ⟨rfl, ⟨G, hp⟩, hlen, e0, e5, e6⟩
  revert e0 e5 e6; revert t; refine all_len (n := 200) ?_; iterate 200 intro uu'
  intro e0 e5 e6; cases e0; cases e5; cases e6
  refine sw_takeG hp ?_
  clear hp
  repeat' (first | (refine aw0m ?_) | (refine ap2 ?_ ?_ <;> first | exact True.intro | intro h) | (refine aw1m ?_) | (refine abx ?_; intro bb) | (refine abz ?_; intro bz) | (refine ahv ?_; intro v' hv') | (refine aac ?_; intro ac cc) | (refine aw2 ?_) | (refine ap4 ?_ ?_ <;> first | exact True.intro | intro h) | (with_reducible refine tr_two ?_ ?_))
  refine sw_loop (fun gm t H' => gm = 1 ∧ (∃ G, Takes [] H' G) ∧ (t.length = 200 ∧ t[0]? = some (.slice none 0 0) ∧ t[5]? = some (.slice (some ⟨bm, 0, none⟩) 0 0) ∧ t[9]? = some (.int .i64 0))) _ ⟨rfl, ⟨_, by (exact atks)⟩, rfl, (by first | rfl | exact congrArg some (congrArg (Value.int _) (by omega)) | (congr 2 <;> omega)), (by first | rfl | exact congrArg some (congrArg (Value.int _) (by omega)) | (congr 2 <;> omega)), (by first | rfl | exact congrArg some (congrArg (Value.int _) (by omega)) | (congr 2 <;> omega))⟩ ?_
  rintro gm t H' ⟨rfl, ⟨G, hp⟩, hlen, e0, e5, e9⟩
  revert e0 e5 e9; revert t; refine all_len (n := 200) ?_; iterate 200 intro uu'
  intro e0 e5 e9; cases e0; cases e5; cases e9
  refine sw_takeG hp ?_
  clear hp
  repeat' (first | (refine aw0m ?_) | (refine ap2 ?_ ?_ <;> first | exact True.intro | intro h) | (refine aw1m ?_) | (refine abx ?_; intro bb) | (refine abz ?_; intro bz) | (refine ahv ?_; intro v' hv') | (refine aac ?_; intro ac cc) | (refine aw2 ?_) | (refine ap4 ?_ ?_ <;> first | exact True.intro | intro h) | (with_reducible refine tr_two ?_ ?_))
  refine sw_loop (fun gm t H' => gm = 1 ∧ (∃ G, Takes [] H' G) ∧ (t.length = 200 ∧ t[0]? = some (.slice none 0 0) ∧ t[5]? = some (.slice (some ⟨bm, 0, none⟩) 0 0) ∧ t[11]? = some (.int .i64 0))) _ ⟨rfl, ⟨_, by (exact atks)⟩, rfl, (by first | rfl | exact congrArg some (congrArg (Value.int _) (by omega)) | (congr 2 <;> omega)), (by first | rfl | exact congrArg some (congrArg (Value.int _) (by omega)) | (congr 2 <;> omega)), (by first | rfl | exact congrArg some (congrArg (Value.int _) (by omega)) | (congr 2 <;> omega))⟩ ?_
  rintro gm t H' ⟨rfl, ⟨G, hp⟩, hlen, e0, e5, e11⟩
  revert e0 e5 e11; revert t; refine all_len (n := 200) ?_; iterate 200 intro uu'
  intro e0 e5 e11; cases e0; cases e5; cases e11
  refine sw_takeG hp ?_
  clear hp
  repeat' (first | (refine aw0m ?_) | (refine ap2 ?_ ?_ <;> first | exact True.intro | intro h) | (refine aw1m ?_) | (refine abx ?_; intro bb) | (refine abz ?_; intro bz) | (refine ahv ?_; intro v' hv') | (refine aac ?_; intro ac cc) | (refine aw2 ?_) | (refine ap4 ?_ ?_ <;> first | exact True.intro | intro h) | (with_reducible refine tr_two ?_ ?_))
  refine sw_loop (fun gm t H' => gm = 1 ∧ (∃ G, Takes [] H' G) ∧ (t.length = 200 ∧ t[0]? = some (.slice none 0 0) ∧ t[5]? = some (.slice (some ⟨bm, 0, none⟩) 0 0) ∧ t[14]? = some (.int .i64 0))) _ ⟨rfl, ⟨_, by (exact atks)⟩, rfl, (by first | rfl | exact congrArg some (congrArg (Value.int _) (by omega)) | (congr 2 <;> omega)), (by first | rfl | exact congrArg some (congrArg (Value.int _) (by omega)) | (congr 2 <;> omega)), (by first | rfl | exact congrArg some (congrArg (Value.int _) (by omega)) | (congr 2 <;> omega))⟩ ?_
  rintro gm t H' ⟨rfl, ⟨G, hp⟩, hlen, e0, e5, e14⟩
  revert e0 e5 e14; revert t; refine all_len (n := 200) ?_; iterate 200 intro uu'
  intro e0 e5 e14; cases e0; cases e5; cases e14
  refine sw_takeG hp ?_
  clear hp
  repeat' (first | (refine aw0m ?_) | (refine ap2 ?_ ?_ <;> first | exact True.intro | intro h) | (refine aw1m ?_) | (refine abx ?_; intro bb) | (refine abz ?_; intro bz) | (refine ahv ?_; intro v' hv') | (refine aac ?_; intro ac cc) | (refine aw2 ?_) | (refine ap4 ?_ ?_ <;> first | exact True.intro | intro h) | (with_reducible refine tr_two ?_ ?_))
  ((with_reducible apply fp_ret); exact res_1 rfl rfl)
  exact HR.out _ _ _ [] (by (exact atks)) ⟨rfl, rfl⟩
set_option maxRecDepth 10000 in
set_option maxHeartbeats 1000000 in
theorem flatWords_nil (r : Hp) : Tri Tryz.prog r 71 [.slice none 0 0] [] fun w H => w = .bool true ∧ H = [] := by
  refine Tri.free2 fun R HR => ?_
  refine fn_of_sw Tryz.func71 rfl _ rfl ?_; simp only [Tryz.ntmps71, List.length_cons, List.length_nil, Nat.reduceAdd, Nat.reduceSub, List.replicate_succ, List.replicate_zero, List.nil_append, List.cons_append]
  repeat' (first | (refine aw0m ?_) | (refine ap2 ?_ ?_ <;> first | exact True.intro | intro h) | (refine aw1m ?_) | (refine abx ?_; intro bb) | (refine abz ?_; intro bz) | (refine ahv ?_; intro v' hv') | (refine aac ?_; intro ac cc) | (refine aw2 ?_) | (refine ap4 ?_ ?_ <;> first | exact True.intro | intro h) | (with_reducible refine tr_two ?_ ?_))
  refine sw_loop (fun gm t H' => gm = 1 ∧ (∃ G, Takes [] H' G) ∧ (t.length = 200 ∧ t[0]? = some (.slice none 0 0) ∧ t[3]? = some (.int .i64 0))) _ ⟨rfl, ⟨[], by (exact atks)⟩, rfl, (by first | rfl | exact congrArg some (congrArg (Value.int _) (by omega)) | (congr 2 <;> omega)), (by first | rfl | exact congrArg some (congrArg (Value.int _) (by omega)) | (congr 2 <;> omega))⟩ ?_
  rintro gm t H' ⟨rfl, ⟨G, hp⟩, hlen, e0, e3⟩
  revert e0 e3; revert t; refine all_len (n := 200) ?_; iterate 200 intro uu'
  intro e0 e3; cases e0; cases e3
  refine sw_takeG hp ?_
  clear hp
  repeat' (first | ((with_reducible apply kx_make0 (c := 0)); exact ty_el; exact ty_inf; rfl; rfl; (omega); (omega); intro bm; (refine apk ?_)) | (refine aw0 ?_) | (refine ap2 ?_ ?_ <;> first | exact True.intro | intro h) | (refine aw1 ?_) | (refine abx ?_; intro bb) | (refine abz ?_; intro bz) | (refine ahv ?_; intro v' hv') | (refine aac ?_; intro ac cc) | (refine aw2 ?_) | (refine ap4 ?_ ?_ <;> first | exact True.intro | intro h) | (with_reducible refine tr_two ?_ ?_))
  refine sw_loop (fun gm t H' => gm = 1 ∧ (∃ G, Takes [] H' G) ∧ (t.length = 200 ∧ t[0]? = some (.slice none 0 0) ∧ t[5]? = some (.slice (some ⟨bm, 0, none⟩) 0 0) ∧ t[6]? = some (.int .i64 0))) _ ⟨rfl, ⟨_, by (exact atks)⟩, rfl, (by first | rfl | exact congrArg some (congrArg (Value.int _) (by omega)) | (congr 2 <;> omega)), (by first | rfl | exact congrArg some (congrArg (Value.int _) (by omega)) | (congr 2 <;> omega)), (by first | rfl | exact congrArg some (congrArg (Value.int _) (by omega)) | (congr 2 <;> omega))⟩ ?_
  rintro gm t H' ⟨rfl, ⟨G, hp⟩, hlen, e0, e5, e6⟩
  revert e0 e5 e6; revert t; refine all_len (n := 200) ?_; iterate 200 intro uu'
  intro e0 e5 e6; cases e0; cases e5; cases e6
  refine sw_takeG hp ?_
  clear hp
  repeat' (first | (refine aw0m ?_) | (refine ap2 ?_ ?_ <;> first | exact True.intro | intro h) | (refine aw1m ?_) | (refine abx ?_; intro bb) | (refine abz ?_; intro bz) | (refine ahv ?_; intro v' hv') | (refine aac ?_; intro ac cc) | (refine aw2 ?_) | (refine ap4 ?_ ?_ <;> first | exact True.intro | intro h) | (with_reducible refine tr_two ?_ ?_))
  refine sw_loop (fun gm t H' => gm = 1 ∧ (∃ G, Takes [] H' G) ∧ (t.length = 200 ∧ t[0]? = some (.slice none 0 0) ∧ t[5]? = some (.slice (some ⟨bm, 0, none⟩) 0 0) ∧ t[9]? = some (.int .i64 0))) _ ⟨rfl, ⟨_, by (exact atks)⟩, rfl, (by first | rfl | exact congrArg some (congrArg (Value.int _) (by omega)) | (congr 2 <;> omega)), (by first | rfl | exact congrArg some (congrArg (Value.int _) (by omega)) | (congr 2 <;> omega)), (by first | rfl | exact congrArg some (congrArg (Value.int _) (by omega)) | (congr 2 <;> omega))⟩ ?_
  rintro gm t H' ⟨rfl, ⟨G, hp⟩, hlen, e0, e5, e9⟩
  revert e0 e5 e9; revert t; refine all_len (n := 200) ?_; iterate 200 intro uu'
  intro e0 e5 e9; cases e0; cases e5; cases e9
  refine sw_takeG hp ?_
  clear hp
  repeat' (first | (refine aw0m ?_) | (refine ap2 ?_ ?_ <;> first | exact True.intro | intro h) | (refine aw1m ?_) | (refine abx ?_; intro bb) | (refine abz ?_; intro bz) | (refine ahv ?_; intro v' hv') | (refine aac ?_; intro ac cc) | (refine aw2 ?_) | (refine ap4 ?_ ?_ <;> first | exact True.intro | intro h) | (with_reducible refine tr_two ?_ ?_))
  refine sw_loop (fun gm t H' => gm = 1 ∧ (∃ G, Takes [] H' G) ∧ (t.length = 200 ∧ t[0]? = some (.slice none 0 0) ∧ t[5]? = some (.slice (some ⟨bm, 0, none⟩) 0 0) ∧ t[11]? = some (.int .i64 0))) _ ⟨rfl, ⟨_, by (exact atks)⟩, rfl, (by first | rfl | exact congrArg some (congrArg (Value.int _) (by omega)) | (congr 2 <;> omega)), (by first | rfl | exact congrArg some (congrArg (Value.int _) (by omega)) | (congr 2 <;> omega)), (by first | rfl | exact congrArg some (congrArg (Value.int _) (by omega)) | (congr 2 <;> omega))⟩ ?_
  rintro gm t H' ⟨rfl, ⟨G, hp⟩, hlen, e0, e5, e11⟩
  revert e0 e5 e11; revert t; refine all_len (n := 200) ?_; iterate 200 intro uu'
  intro e0 e5 e11; cases e0; cases e5; cases e11
  refine sw_takeG hp ?_
  clear hp
  repeat' (first | (refine aw0m ?_) | (refine ap2 ?_ ?_ <;> first | exact True.intro | intro h) | (refine aw1m ?_) | (refine abx ?_; intro bb) | (refine abz ?_; intro bz) | (refine ahv ?_; intro v' hv') | (refine aac ?_; intro ac cc) | (refine aw2 ?_) | (refine ap4 ?_ ?_ <;> first | exact True.intro | intro h) | (with_reducible refine tr_two ?_ ?_))
  refine sw_loop (fun gm t H' => gm = 1 ∧ (∃ G, Takes [] H' G) ∧ (t.length = 200 ∧ t[0]? = some (.slice none 0 0) ∧ t[5]? = some (.slice (some ⟨bm, 0, none⟩) 0 0) ∧ t[14]? = some (.int .i64 0))) _ ⟨rfl, ⟨_, by (exact atks)⟩, rfl, (by first | rfl | exact congrArg some (congrArg (Value.int _) (by omega)) | (congr 2 <;> omega)), (by first | rfl | exact congrArg some (congrArg (Value.int _) (by omega)) | (congr 2 <;> omega)), (by first | rfl | exact congrArg some (congrArg (Value.int _) (by omega)) | (congr 2 <;> omega))⟩ ?_
  rintro gm t H' ⟨rfl, ⟨G, hp⟩, hlen, e0, e5, e14⟩
  revert e0 e5 e14; revert t; refine all_len (n := 200) ?_; iterate 200 intro uu'
  intro e0 e5 e14; cases e0; cases e5; cases e14
  refine sw_takeG hp ?_
  clear hp
  repeat' (first | (refine aw0m ?_) | (refine ap2 ?_ ?_ <;> first | exact True.intro | intro h) | (refine aw1m ?_) | (refine abx ?_; intro bb) | (refine abz ?_; intro bz) | (refine ahv ?_; intro v' hv') | (refine aac ?_; intro ac cc) | (refine aw2 ?_) | (refine ap4 ?_ ?_ <;> first | exact True.intro | intro h) | (with_reducible refine tr_two ?_ ?_))
  ((with_reducible apply fp_ret); exact res_1 rfl rfl)
  exact HR.out _ _ _ [] (by (exact atks)) ⟨rfl, rfl⟩
set_option maxRecDepth 10000 in
set_option maxHeartbeats 1000000 in
theorem flatInts_nil (r : Hp) : Tri Tryz.prog r 72 [.slice none 0 0] [] fun w H => w = .bool true ∧ H = [] := by
  refine Tri.free2 fun R HR => ?_
  refine fn_of_sw Tryz.func72 rfl _ rfl ?_; simp only [Tryz.ntmps72, List.length_cons, List.length_nil, Nat.reduceAdd, Nat.reduceSub, List.replicate_succ, List.replicate_zero, List.nil_append, List.cons_append]
  repeat' (first | (refine aw0m ?_) | (refine ap2 ?_ ?_ <;> first | exact True.intro | intro h) | (refine aw1m ?_) | (refine abx ?_; intro bb) | (refine abz ?_; intro bz) | (refine ahv ?_; intro v' hv') | (refine aac ?_; intro ac cc) | (refine aw2 ?_) | (refine ap4 ?_ ?_ <;> first | exact True.intro | intro h) | (with_reducible refine tr_two ?_ ?_))
  refine sw_loop (fun gm t H' => gm = 1 ∧ (∃ G, Takes [] H' G) ∧ (t.length = 193 ∧ t[0]? = some (.slice none 0 0) ∧ t[3]? = some (.int .i64 0))) _ ⟨rfl, ⟨[], by (exact atks)⟩, rfl, (by first | rfl | exact congrArg some (congrArg (Value.int _) (by omega)) | (congr 2 <;> omega)), (by first | rfl | exact congrArg some (congrArg (Value.int _) (by omega)) | (congr 2 <;> omega))⟩ ?_
  rintro gm t H' ⟨rfl, ⟨G, hp⟩, hlen, e0, e3⟩
  revert e0 e3; revert t; refine all_len (n := 193) ?_; iterate 193 intro uu'
  intro e0 e3; cases e0; cases e3
  refine sw_takeG hp ?_
  clear hp
  repeat' (first | ((with_reducible apply kx_make0 (c := 0)); exact ty_el; exact ty_inf; rfl; rfl; (omega); (omega); intro bm; (refine apk ?_)) | (refine aw0 ?_) | (refine ap2 ?_ ?_ <;> first | exact True.intro | intro h) | (refine aw1 ?_) | (refine abx ?_; intro bb) | (refine abz ?_; intro bz) | (refine ahv ?_; intro v' hv') | (refine aac ?_; intro ac cc) | (refine aw2 ?_) | (refine ap4 ?_ ?_ <;> first | exact True.intro | intro h) | (with_reducible refine tr_two ?_ ?_))
  refine sw_loop (fun gm t H' => gm = 1 ∧ (∃ G, Takes [] H' G) ∧ (t.length = 193 ∧ t[0]? = some (.slice none 0 0) ∧ t[5]? = some (.slice (some ⟨bm, 0, none⟩) 0 0) ∧ t[6]? = some (.int .i64 0))) _ ⟨rfl, ⟨_, by (exact atks)⟩, rfl, (by first | rfl | exact congrArg some (congrArg (Value.int _) (by omega)) | (congr 2 <;> omega)), (by first | rfl | exact congrArg some (congrArg (Value.int _) (by omega)) | (congr 2 <;> omega)), (by first | rfl | exact congrArg some (congrArg (Value.int _) (by omega)) | (congr 2 <;> omega))⟩ ?_
  rintro gm t H' ⟨rfl, ⟨G, hp⟩, hlen, e0, e5, e6⟩
  revert e0 e5 e6; revert t; refine all_len (n := 193) ?_; iterate 193 intro uu'
  intro e0 e5 e6; cases e0; cases e5; cases e6
  refine sw_takeG hp ?_
  clear hp
  repeat' (first | (refine aw0m ?_) | (refine ap2 ?_ ?_ <;> first | exact True.intro | intro h) | (refine aw1m ?_) | (refine abx ?_; intro bb) | (refine abz ?_; intro bz) | (refine ahv ?_; intro v' hv') | (refine aac ?_; intro ac cc) | (refine aw2 ?_) | (refine ap4 ?_ ?_ <;> first | exact True.intro | intro h) | (with_reducible refine tr_two ?_ ?_))
  refine sw_loop (fun gm t H' => gm = 1 ∧ (∃ G, Takes [] H' G) ∧ (t.length = 193 ∧ t[0]? = some (.slice none 0 0) ∧ t[5]? = some (.slice (some ⟨bm, 0, none⟩) 0 0) ∧ t[9]? = some (.int .i64 0))) _ ⟨rfl, ⟨_, by (exact atks)⟩, rfl, (by first | rfl | exact congrArg some (congrArg (Value.int _) (by omega)) | (congr 2 <;> omega)), (by first | rfl | exact congrArg some (congrArg (Value.int _) (by omega)) | (congr 2 <;> omega)), (by first | rfl | exact congrArg some (congrArg (Value.int _) (by omega)) | (congr 2 <;> omega))⟩ ?_
  rintro gm t H' ⟨rfl, ⟨G, hp⟩, hlen, e0, e5, e9⟩
  revert e0 e5 e9; revert t; refine all_len (n := 193) ?_; iterate 193 intro uu'
  intro e0 e5 e9; cases e0; cases e5; cases e9
  refine sw_takeG hp ?_
  clear hp
  repeat' (first | (refine aw0m ?_) | (refine ap2 ?_ ?_ <;> first | exact True.intro | intro h) | (refine aw1m ?_) | (refine abx ?_; intro bb) | (refine abz ?_; intro bz) | (refine ahv ?_; intro v' hv') | (refine aac ?_; intro ac cc) | (refine aw2 ?_) | (refine ap4 ?_ ?_ <;> first | exact True.intro | intro h) | (with_reducible refine tr_two ?_ ?_))
  refine sw_loop (fun gm t H' => gm = 1 ∧ (∃ G, Takes [] H' G) ∧ (t.length = 193 ∧ t[0]? = some (.slice none 0 0) ∧ t[5]? = some (.slice (some ⟨bm, 0, none⟩) 0 0) ∧ t[11]? = some (.int .i64 0))) _ ⟨rfl, ⟨_, by (exact atks)⟩, rfl, (by first | rfl | exact congrArg some (congrArg (Value.int _) (by omega)) | (congr 2 <;> omega)), (by first | rfl | exact congrArg some (congrArg (Value.int _) (by omega)) | (congr 2 <;> omega)), (by first | rfl | exact congrArg some (congrArg (Value.int _) (by omega)) | (congr 2 <;> omega))⟩ ?_
  rintro gm t H' ⟨rfl, ⟨G, hp⟩, hlen, e0, e5, e11⟩
  revert e0 e5 e11; revert t; refine all_len (n := 193) ?_; iterate 193 intro uu'
  intro e0 e5 e11; cases e0; cases e5; cases e11
  refine sw_takeG hp ?_
  clear hp
  repeat' (first | (refine aw0m ?_) | (refine ap2 ?_ ?_ <;> first | exact True.intro | intro h) | (refine aw1m ?_) | (refine abx ?_; intro bb) | (refine abz ?_; intro bz) | (refine ahv ?_; intro v' hv') | (refine aac ?_; intro ac cc) | (refine aw2 ?_) | (refine ap4 ?_ ?_ <;> first | exact True.intro | intro h) | (with_reducible refine tr_two ?_ ?_))
  refine sw_loop (fun gm t H' => gm = 1 ∧ (∃ G, Takes [] H' G) ∧ (t.length = 193 ∧ t[0]? = some (.slice none 0 0) ∧ t[5]? = some (.slice (some ⟨bm, 0, none⟩) 0 0) ∧ t[14]? = some (.int .i64 0))) _ ⟨rfl, ⟨_, by (exact atks)⟩, rfl, (by first | rfl | exact congrArg some (congrArg (Value.int _) (by omega)) | (congr 2 <;> omega)), (by first | rfl | exact congrArg some (congrArg (Value.int _) (by omega)) | (congr 2 <;> omega)), (by first | rfl | exact congrArg some (congrArg (Value.int _) (by omega)) | (congr 2 <;> omega))⟩ ?_
  rintro gm t H' ⟨rfl, ⟨G, hp⟩, hlen, e0, e5, e14⟩
  revert e0 e5 e14; revert t; refine all_len (n := 193) ?_; iterate 193 intro uu'
  intro e0 e5 e14; cases e0; cases e5; cases e14
  refine sw_takeG hp ?_
  clear hp
  repeat' (first | (refine aw0m ?_) | (refine ap2 ?_ ?_ <;> first | exact True.intro | intro h) | (refine aw1m ?_) | (refine abx ?_; intro bb) | (refine abz ?_; intro bz) | (refine ahv ?_; intro v' hv') | (refine aac ?_; intro ac cc) | (refine aw2 ?_) | (refine ap4 ?_ ?_ <;> first | exact True.intro | intro h) | (with_reducible refine tr_two ?_ ?_))
  ((with_reducible apply fp_ret); exact res_1 rfl rfl)
  exact HR.out _ _ _ [] (by (exact atks)) ⟨rfl, rfl⟩
set_option maxRecDepth 10000 in
set_option maxHeartbeats 1000000 in
theorem flatLongs_nil (r : Hp) : Tri Tryz.prog r 73 [.slice none 0 0] [] fun w H => w = .bool true ∧ H = [] := by
  refine Tri.free2 fun R HR => ?_
  refine fn_of_sw Tryz.func73 rfl _ rfl ?_; simp only [Tryz.ntmps73, List.length_cons, List.length_nil, Nat.reduceAdd, Nat.reduceSub, List.replicate_succ, List.replicate_zero, List.nil_append, List.cons_append]
  repeat' (first | (refine aw0m ?_) | (refine ap2 ?_ ?_ <;> first | exact True.intro | intro h) | (refine aw1m ?_) | (refine abx ?_; intro bb) | (refine abz ?_; intro bz) | (refine ahv ?_; intro v' hv') | (refine aac ?_; intro ac cc) | (refine aw2 ?_) | (refine ap4 ?_ ?_ <;> first | exact True.intro | intro h) | (with_reducible refine tr_two ?_ ?_))
  refine sw_loop (fun gm t H' => gm = 1 ∧ (∃ G, Takes [] H' G) ∧ (t.length = 193 ∧ t[0]? = some (.slice none 0 0) ∧ t[3]? = some (.int .i64 0))) _ ⟨rfl, ⟨[], by (exact atks)⟩, rfl, (by first | rfl | exact congrArg some (congrArg (Value.int _) (by omega)) | (congr 2 <;> omega)), (by first | rfl | exact congrArg some (congrArg (Value.int _) (by omega)) | (congr 2 <;> omega))⟩ ?_
  rintro gm t H' ⟨rfl, ⟨G, hp⟩, hlen, e0, e3⟩
  revert e0 e3; revert t; refine all_len (n := 193) ?_; iterate 193 intro uu'
  intro e0 e3; cases e0; cases e3
  refine sw_takeG hp ?_
  clear hp
  repeat' (first | ((with_reducible apply kx_make0 (c := 0)); exact ty_el; exact ty_inf; rfl; rfl; (omega); (omega); intro bm; (refine apk ?_)) | (refine aw0 ?_) | (refine ap2 ?_ ?_ <;> first | exact True.intro | intro h) | (refine aw1 ?_) | (refine abx ?_; intro bb) | (refine abz ?_; intro bz) | (refine ahv ?_; intro v' hv') | (refine aac ?_; intro ac cc) | (refine aw2 ?_) | (refine ap4 ?_ ?_ <;> first | exact True.intro | intro h) | (with_reducible refine tr_two ?_ ?_))
  refine sw_loop (fun gm t H' => gm = 1 ∧ (∃ G, Takes [] H' G) ∧ (t.length = 193 ∧ t[0]? = some (.slice none 0 0) ∧ t[5]? = some (.slice (some ⟨bm, 0, none⟩) 0 0) ∧ t[6]? = some (.int .i64 0))) _ ⟨rfl, ⟨_, by (exact atks)⟩, rfl, (by first | rfl | exact congrArg some (congrArg (Value.int _) (by omega)) | (congr 2 <;> omega)), (by first | rfl | exact congrArg some (congrArg (Value.int _) (by omega)) | (congr 2 <;> omega)), (by first | rfl | exact congrArg some (congrArg (Value.int _) (by omega)) | (congr 2 <;> omega))⟩ ?_
  rintro gm t H' ⟨rfl, ⟨G, hp⟩, hlen, e0, e5, e6⟩
  revert e0 e5 e6; revert t; refine all_len (n := 193) ?_; iterate 193 intro uu'
  intro e0 e5 e6; cases e0; cases e5; cases e6
  refine sw_takeG hp ?_
  clear hp
  repeat' (first | (refine aw0m ?_) | (refine ap2 ?_ ?_ <;> first | exact True.intro | intro h) | (refine aw1m ?_) | (refine abx ?_; intro bb) | (refine abz ?_; intro bz) | (refine ahv ?_; intro v' hv') | (refine aac ?_; intro ac cc) | (refine aw2 ?_) | (refine ap4 ?_ ?_ <;> first | exact True.intro | intro h) | (with_reducible refine tr_two ?_ ?_))
  refine sw_loop (fun gm t H' => gm = 1 ∧ (∃ G, Takes [] H' G) ∧ (t.length = 193 ∧ t[0]? = some (.slice none 0 0) ∧ t[5]? = some (.slice (some ⟨bm, 0, none⟩) 0 0) ∧ t[9]? = some (.int .i64 0))) _ ⟨rfl, ⟨_, by (exact atks)⟩, rfl, (by first | rfl | exact congrArg some (congrArg (Value.int _) (by omega)) | (congr 2 <;> omega)), (by first | rfl | exact congrArg some (congrArg (Value.int _) (by omega)) | (congr 2 <;> omega)), (by first | rfl | exact congrArg some (congrArg (Value.int _) (by omega)) | (congr 2 <;> omega))⟩ ?_
  rintro gm t H' ⟨rfl, ⟨G, hp⟩, hlen, e0, e5, e9⟩
  revert e0 e5 e9; revert t; refine all_len (n := 193) ?_; iterate 193 intro uu'
  intro e0 e5 e9; cases e0; cases e5; cases e9
  refine sw_takeG hp ?_
  clear hp
  repeat' (first | (refine aw0m ?_) | (refine ap2 ?_ ?_ <;> first | exact True.intro | intro h) | (refine aw1m ?_) | (refine abx ?_; intro bb) | (refine abz ?_; intro bz) | (refine ahv ?_; intro v' hv') | (refine aac ?_; intro ac cc) | (refine aw2 ?_) | (refine ap4 ?_ ?_ <;> first | exact True.intro | intro h) | (with_reducible refine tr_two ?_ ?_))
  refine sw_loop (fun gm t H' => gm = 1 ∧ (∃ G, Takes [] H' G) ∧ (t.length = 193 ∧ t[0]? = some (.slice none 0 0) ∧ t[5]? = some (.slice (some ⟨bm, 0, none⟩) 0 0) ∧ t[11]? = some (.int .i64 0))) _ ⟨rfl, ⟨_, by (exact atks)⟩, rfl, (by first | rfl | exact congrArg some (congrArg (Value.int _) (by omega)) | (congr 2 <;> omega)), (by first | rfl | exact congrArg some (congrArg (Value.int _) (by omega)) | (congr 2 <;> omega)), (by first | rfl | exact congrArg some (congrArg (Value.int _) (by omega)) | (congr 2 <;> omega))⟩ ?_
  rintro gm t H' ⟨rfl, ⟨G, hp⟩, hlen, e0, e5, e11⟩
  revert e0 e5 e11; revert t; refine all_len (n := 193) ?_; iterate 193 intro uu'
  intro e0 e5 e11; cases e0; cases e5; cases e11
  refine sw_takeG hp ?_
  clear hp
  repeat' (first | (refine aw0m ?_) | (refine ap2 ?_ ?_ <;> first | exact True.intro | intro h) | (refine aw1m ?_) | (refine abx ?_; intro bb) | (refine abz ?_; intro bz) | (refine ahv ?_; intro v' hv') | (refine aac ?_; intro ac cc) | (refine aw2 ?_) | (refine ap4 ?_ ?_ <;> first | exact True.intro | intro h) | (with_reducible refine tr_two ?_ ?_))
  refine sw_loop (fun gm t H' => gm = 1 ∧ (∃ G, Takes [] H' G) ∧ (t.length = 193 ∧ t[0]? = some (.slice none 0 0) ∧ t[5]? = some (.slice (some ⟨bm, 0, none⟩) 0 0) ∧ t[14]? = some (.int .i64 0))) _ ⟨rfl, ⟨_, by (exact atks)⟩, rfl, (by first | rfl | exact congrArg some (congrArg (Value.int _) (by omega)) | (congr 2 <;> omega)), (by first | rfl | exact congrArg some (congrArg (Value.int _) (by omega)) | (congr 2 <;> omega)), (by first | rfl | exact congrArg some (congrArg (Value.int _) (by omega)) | (congr 2 <;> omega))⟩ ?_
  rintro gm t H' ⟨rfl, ⟨G, hp⟩, hlen, e0, e5, e14⟩
  revert e0 e5 e14; revert t; refine all_len (n := 193) ?_; iterate 193 intro uu'
  intro e0 e5 e14; cases e0; cases e5; cases e14
  refine sw_takeG hp ?_
  clear hp
  repeat' (first | (refine aw0m ?_) | (refine ap2 ?_ ?_ <;> first | exact True.intro | intro h) | (refine aw1m ?_) | (refine abx ?_; intro bb) | (refine abz ?_; intro bz) | (refine ahv ?_; intro v' hv') | (refine aac ?_; intro ac cc) | (refine aw2 ?_) | (refine ap4 ?_ ?_ <;> first | exact True.intro | intro h) | (with_reducible refine tr_two ?_ ?_))
  ((with_reducible apply fp_ret); exact res_1 rfl rfl)
  exact HR.out _ _ _ [] (by (exact atks)) ⟨rfl, rfl⟩
set_option maxRecDepth 10000 in
set_option maxHeartbeats 1000000 in
theorem flatTexts_nil (r : Hp) : Tri Tryz.prog r 74 [.slice none 0 0] [] fun w H => w = .bool true ∧ H = [] := by
  refine Tri.free2 fun R HR => ?_
  refine fn_of_sw Tryz.func74 rfl _ rfl ?_; simp only [Tryz.ntmps74, List.length_cons, List.length_nil, Nat.reduceAdd, Nat.reduceSub, List.replicate_succ, List.replicate_zero, List.nil_append, List.cons_append]
  repeat' (first | (refine aw0m ?_) | (refine ap2 ?_ ?_ <;> first | exact True.intro | intro h) | (refine aw1m ?_) | (refine abx ?_; intro bb) | (refine abz ?_; intro bz) | (refine ahv ?_; intro v' hv') | (refine aac ?_; intro ac cc) | (refine aw2 ?_) | (refine ap4 ?_ ?_ <;> first | exact True.intro | intro h) | (with_reducible refine tr_two ?_ ?_))
  refine sw_loop (fun gm t H' => gm = 1 ∧ (∃ G, Takes [] H' G) ∧ (t.length = 193 ∧ t[0]? = some (.slice none 0 0) ∧ t[3]? = some (.int .i64 0))) _ ⟨rfl, ⟨[], by (exact atks)⟩, rfl, (by first | rfl | exact congrArg some (congrArg (Value.int _) (by omega)) | (congr 2 <;> omega)), (by first | rfl | exact congrArg some (congrArg (Value.int _) (by omega)) | (congr 2 <;> omega))⟩ ?_
  rintro gm t H' ⟨rfl, ⟨G, hp⟩, hlen, e0, e3⟩
  revert e0 e3; revert t; refine all_len (n := 193) ?_; iterate 193 intro uu'
  intro e0 e3; cases e0; cases e3
  refine sw_takeG hp ?_
  clear hp
  repeat' (first | ((with_reducible apply kx_make0 (c := 0)); exact ty_el; exact ty_inf; rfl; rfl; (omega); (omega); intro bm; (refine apk ?_)) | (refine aw0 ?_) | (refine ap2 ?_ ?_ <;> first | exact True.intro | intro h) | (refine aw1 ?_) | (refine abx ?_; intro bb) | (refine abz ?_; intro bz) | (refine ahv ?_; intro v' hv') | (refine aac ?_; intro ac cc) | (refine aw2 ?_) | (refine ap4 ?_ ?_ <;> first | exact True.intro | intro h) | (with_reducible refine tr_two ?_ ?_))
  refine sw_loop (fun gm t H' => gm = 1 ∧ (∃ G, Takes [] H' G) ∧ (t.length = 193 ∧ t[0]? = some (.slice none 0 0) ∧ t[5]? = some (.slice (some ⟨bm, 0, none⟩) 0 0) ∧ t[6]? = some (.int .i64 0))) _ ⟨rfl, ⟨_, by (exact atks)⟩, rfl, (by first | rfl | exact congrArg some (congrArg (Value.int _) (by omega)) | (congr 2 <;> omega)), (by first | rfl | exact congrArg some (congrArg (Value.int _) (by omega)) | (congr 2 <;> omega)), (by first | rfl | exact congrArg some (congrArg (Value.int _) (by omega)) | (congr 2 <;> omega))⟩ ?_
  rintro gm t H' ⟨rfl, ⟨G, hp⟩, hlen, e0, e5, e6⟩
  revert e0 e5 e6; revert t; refine all_len (n := 193) ?_; iterate 193 intro uu'
  intro e0 e5 e6; cases e0; cases e5; cases e6
  refine sw_takeG hp ?_
  clear hp
  repeat' (first | (refine aw0m ?_) | (refine ap2 ?_ ?_ <;> first | exact True.intro | intro h) | (refine aw1m ?_) | (refine abx ?_; intro bb) | (refine abz ?_; intro bz) | (refine ahv ?_; intro v' hv') | (refine aac ?_; intro ac cc) | (refine aw2 ?_) | (refine ap4 ?_ ?_ <;> first | exact True.intro | intro h) | (with_reducible refine tr_two ?_ ?_))
  refine sw_loop (fun gm t H' => gm = 1 ∧ (∃ G, Takes [] H' G) ∧ (t.length = 193 ∧ t[0]? = some (.slice none 0 0) ∧ t[5]? = some (.slice (some ⟨bm, 0, none⟩) 0 0) ∧ t[9]? = some (.int .i64 0))) _ ⟨rfl, ⟨_, by (exact atks)⟩, rfl, (by first | rfl | exact congrArg some (congrArg (Value.int _) (by omega)) | (congr 2 <;> omega)), (by first | rfl | exact congrArg some (congrArg (Value.int _) (by omega)) | (congr 2 <;> omega)), (by first | rfl | exact congrArg some (congrArg (Value.int _) (by omega)) | (congr 2 <;> omega))⟩ ?_
  rintro gm t H' ⟨rfl, ⟨G, hp⟩, hlen, e0, e5, e9⟩
  revert e0 e5 e9; revert t; refine all_len (n := 193) ?_; iterate 193 intro uu'
  intro e0 e5 e9; cases e0; cases e5; cases e9
  refine sw_takeG hp ?_
  clear hp
  repeat' (first | (refine aw0m ?_) | (refine ap2 ?_ ?_ <;> first | exact True.intro | intro h) | (refine aw1m ?_) | (refine abx ?_; intro bb) | (refine abz ?_; intro bz) | (refine ahv ?_; intro v' hv') | (refine aac ?_; intro ac cc) | (refine aw2 ?_) | (refine ap4 ?_ ?_ <;> first | exact True.intro | intro h) | (with_reducible refine tr_two ?_ ?_))
  refine sw_loop (fun gm t H' => gm = 1 ∧ (∃ G, Takes [] H' G) ∧ (t.length = 193 ∧ t[0]? = some (.slice none 0 0) ∧ t[5]? = some (.slice (some ⟨bm, 0, none⟩) 0 0) ∧ t[11]? = some (.int .i64 0))) _ ⟨rfl, ⟨_, by (exact atks)⟩, rfl, (by first | rfl | exact congrArg some (congrArg (Value.int _) (by omega)) | (congr 2 <;> omega)), (by first | rfl | exact congrArg some (congrArg (Value.int _) (by omega)) | (congr 2 <;> omega)), (by first | rfl | exact congrArg some (congrArg (Value.int _) (by omega)) | (congr 2 <;> omega))⟩ ?_
  rintro gm t H' ⟨rfl, ⟨G, hp⟩, hlen, e0, e5, e11⟩
  revert e0 e5 e11; revert t; refine all_len (n := 193) ?_; iterate 193 intro uu'
  intro e0 e5 e11; cases e0; cases e5; cases e11
  refine sw_takeG hp ?_
  clear hp
  repeat' (first | (refine aw0m ?_) | (refine ap2 ?_ ?_ <;> first | exact True.intro | intro h) | (refine aw1m ?_) | (refine abx ?_; intro bb) | (refine abz ?_; intro bz) | (refine ahv ?_; intro v' hv') | (refine aac ?_; intro ac cc) | (refine aw2 ?_) | (refine ap4 ?_ ?_ <;> first | exact True.intro | intro h) | (with_reducible refine tr_two ?_ ?_))
  refine sw_loop (fun gm t H' => gm = 1 ∧ (∃ G, Takes [] H' G) ∧ (t.length = 193 ∧ t[0]? = some (.slice none 0 0) ∧ t[5]? = some (.slice (some ⟨bm, 0, none⟩) 0 0) ∧ t[14]? = some (.int .i64 0))) _ ⟨rfl, ⟨_, by (exact atks)⟩, rfl, (by first | rfl | exact congrArg some (congrArg (Value.int _) (by omega)) | (congr 2 <;> omega)), (by first | rfl | exact congrArg some (congrArg (Value.int _) (by omega)) | (congr 2 <;> omega)), (by first | rfl | exact congrArg some (congrArg (Value.int _) (by omega)) | (congr 2 <;> omega))⟩ ?_
  rintro gm t H' ⟨rfl, ⟨G, hp⟩, hlen, e0, e5, e14⟩
  revert e0 e5 e14; revert t; refine all_len (n := 193) ?_; iterate 193 intro uu'
  intro e0 e5 e14; cases e0; cases e5; cases e14
  refine sw_takeG hp ?_
  clear hp
  repeat' (first | (refine aw0m ?_) | (refine ap2 ?_ ?_ <;> first | exact True.intro | intro h) | (refine aw1m ?_) | (refine abx ?_; intro bb) | (refine abz ?_; intro bz) | (refine ahv ?_; intro v' hv') | (refine aac ?_; intro ac cc) | (refine aw2 ?_) | (refine ap4 ?_ ?_ <;> first | exact True.intro | intro h) | (with_reducible refine tr_two ?_ ?_))
  ((with_reducible apply fp_ret); exact res_1 rfl rfl)
  exact HR.out _ _ _ [] (by (exact atks)) ⟨rfl, rfl⟩
set_option maxRecDepth 10000 in
set_option maxHeartbeats 1000000 in
theorem flatTruths_nil (r : Hp) : Tri Tryz.prog r 76 [.slice none 0 0] [] fun w H => w = .bool true ∧ H = [] := by
  refine Tri.free2 fun R HR => ?_
  refine fn_of_sw Tryz.func76 rfl _ rfl ?_; simp only [Tryz.ntmps76, List.length_cons, List.length_nil, Nat.reduceAdd, Nat.reduceSub, List.replicate_succ, List.replicate_zero, List.nil_append, List.cons_append]
  repeat' (first | (refine aw0m ?_) | (refine ap2 ?_ ?_ <;> first | exact True.intro | intro h) | (refine aw1m ?_) | (refine abx ?_; intro bb) | (refine abz ?_; intro bz) | (refine ahv ?_; intro v' hv') | (refine aac ?_; intro ac cc) | (refine aw2 ?_) | (refine ap4 ?_ ?_ <;> first | exact True.intro | intro h) | (with_reducible refine tr_two ?_ ?_))
  refine sw_loop (fun gm t H' => gm = 1 ∧ (∃ G, Takes [] H' G) ∧ (t.length = 207 ∧ t[0]? = some (.slice none 0 0) ∧ t[3]? = some (.int .i64 0))) _ ⟨rfl, ⟨[], by (exact atks)⟩, rfl, (by first | rfl | exact congrArg some (congrArg (Value.int _) (by omega)) | (congr 2 <;> omega)), (by first | rfl | exact congrArg some (congrArg (Value.int _) (by omega)) | (congr 2 <;> omega))⟩ ?_
  rintro gm t H' ⟨rfl, ⟨G, hp⟩, hlen, e0, e3⟩
  revert e0 e3; revert t; refine all_len (n := 207) ?_; iterate 207 intro uu'
  intro e0 e3; cases e0; cases e3
  refine sw_takeG hp ?_
  clear hp
  repeat' (first | ((with_reducible apply kx_make0 (c := 0)); exact ty_el; exact ty_inf; rfl; rfl; (omega); (omega); intro bm; (refine apk ?_)) | (refine aw0 ?_) | (refine ap2 ?_ ?_ <;> first | exact True.intro | intro h) | (refine aw1 ?_) | (refine abx ?_; intro bb) | (refine abz ?_; intro bz) | (refine ahv ?_; intro v' hv') | (refine aac ?_; intro ac cc) | (refine aw2 ?_) | (refine ap4 ?_ ?_ <;> first | exact True.intro | intro h) | (with_reducible refine tr_two ?_ ?_))
  refine sw_loop (fun gm t H' => gm = 1 ∧ (∃ G, Takes [] H' G) ∧ (t.length = 207 ∧ t[0]? = some (.slice none 0 0) ∧ t[5]? = some (.slice (some ⟨bm, 0, none⟩) 0 0) ∧ t[6]? = some (.int .i64 0))) _ ⟨rfl, ⟨_, by (exact atks)⟩, rfl, (by first | rfl | exact congrArg some (congrArg (Value.int _) (by omega)) | (congr 2 <;> omega)), (by first | rfl | exact congrArg some (congrArg (Value.int _) (by omega)) | (congr 2 <;> omega)), (by first | rfl | exact congrArg some (congrArg (Value.int _) (by omega)) | (congr 2 <;> omega))⟩ ?_
  rintro gm t H' ⟨rfl, ⟨G, hp⟩, hlen, e0, e5, e6⟩
  revert e0 e5 e6; revert t; refine all_len (n := 207) ?_; iterate 207 intro uu'
  intro e0 e5 e6; cases e0; cases e5; cases e6
  refine sw_takeG hp ?_
  clear hp
  repeat' (first | (refine aw0m ?_) | (refine ap2 ?_ ?_ <;> first | exact True.intro | intro h) | (refine aw1m ?_) | (refine abx ?_; intro bb) | (refine abz ?_; intro bz) | (refine ahv ?_; intro v' hv') | (refine aac ?_; intro ac cc) | (refine aw2 ?_) | (refine ap4 ?_ ?_ <;> first | exact True.intro | intro h) | (with_reducible refine tr_two ?_ ?_))
  refine sw_loop (fun gm t H' => gm = 1 ∧ (∃ G, Takes [] H' G) ∧ (t.length = 207 ∧ t[0]? = some (.slice none 0 0) ∧ t[5]? = some (.slice (some ⟨bm, 0, none⟩) 0 0) ∧ t[9]? = some (.int .i64 0))) _ ⟨rfl, ⟨_, by (exact atks)⟩, rfl, (by first | rfl | exact congrArg some (congrArg (Value.int _) (by omega)) | (congr 2 <;> omega)), (by first | rfl | exact congrArg some (congrArg (Value.int _) (by omega)) | (congr 2 <;> omega)), (by first | rfl | exact congrArg some (congrArg (Value.int _) (by omega)) | (congr 2 <;> omega))⟩ ?_
  rintro gm t H' ⟨rfl, ⟨G, hp⟩, hlen, e0, e5, e9⟩
  revert e0 e5 e9; revert t; refine all_len (n := 207) ?_; iterate 207 intro uu'
  intro e0 e5 e9; cases e0; cases e5; cases e9
  refine sw_takeG hp ?_
  clear hp
  repeat' (first | (refine aw0m ?_) | (refine ap2 ?_ ?_ <;> first | exact True.intro | intro h) | (refine aw1m ?_) | (refine abx ?_; intro bb) | (refine abz ?_; intro bz) | (refine ahv ?_; intro v' hv') | (refine aac ?_; intro ac cc) | (refine aw2 ?_) | (refine ap4 ?_ ?_ <;> first | exact True.intro | intro h) | (with_reducible refine tr_two ?_ ?_))
  refine sw_loop (fun gm t H' => gm = 1 ∧ (∃ G, Takes [] H' G) ∧ (t.length = 207 ∧ t[0]? = some (.slice none 0 0) ∧ t[5]? = some (.slice (some ⟨bm, 0, none⟩) 0 0) ∧ t[11]? = some (.int .i64 0))) _ ⟨rfl, ⟨_, by (exact atks)⟩, rfl, (by first | rfl | exact congrArg some (congrArg (Value.int _) (by omega)) | (congr 2 <;> omega)), (by first | rfl | exact congrArg some (congrArg (Value.int _) (by omega)) | (congr 2 <;> omega)), (by first | rfl | exact congrArg some (congrArg (Value.int _) (by omega)) | (congr 2 <;> omega))⟩ ?_
  rintro gm t H' ⟨rfl, ⟨G, hp⟩, hlen, e0, e5, e11⟩
  revert e0 e5 e11; revert t; refine all_len (n := 207) ?_; iterate 207 intro uu'
  intro e0 e5 e11; cases e0; cases e5; cases e11
  refine sw_takeG hp ?_
  clear hp
  repeat' (first | (refine aw0m ?_) | (refine ap2 ?_ ?_ <;> first | exact True.intro | intro h) | (refine aw1m ?_) | (refine abx ?_; intro bb) | (refine abz ?_; intro bz) | (refine ahv ?_; intro v' hv') | (refine aac ?_; intro ac cc) | (refine aw2 ?_) | (refine ap4 ?_ ?_ <;> first | exact True.intro | intro h) | (with_reducible refine tr_two ?_ ?_))
  refine sw_loop (fun gm t H' => gm = 1 ∧ (∃ G, Takes [] H' G) ∧ (t.length = 207 ∧ t[0]? = some (.slice none 0 0) ∧ t[5]? = some (.slice (some ⟨bm, 0, none⟩) 0 0) ∧ t[14]? = some (.int .i64 0))) _ ⟨rfl, ⟨_, by (exact atks)⟩, rfl, (by first | rfl | exact congrArg some (congrArg (Value.int _) (by omega)) | (congr 2 <;> omega)), (by first | rfl | exact congrArg some (congrArg (Value.int _) (by omega)) | (congr 2 <;> omega)), (by first | rfl | exact congrArg some (congrArg (Value.int _) (by omega)) | (congr 2 <;> omega))⟩ ?_
  rintro gm t H' ⟨rfl, ⟨G, hp⟩, hlen, e0, e5, e14⟩
  revert e0 e5 e14; revert t; refine all_len (n := 207) ?_; iterate 207 intro uu'
  intro e0 e5 e14; cases e0; cases e5; cases e14
  refine sw_takeG hp ?_
  clear hp
  repeat' (first | (refine aw0m ?_) | (refine ap2 ?_ ?_ <;> first | exact True.intro | intro h) | (refine aw1m ?_) | (refine abx ?_; intro bb) | (refine abz ?_; intro bz) | (refine ahv ?_; intro v' hv') | (refine aac ?_; intro ac cc) | (refine aw2 ?_) | (refine ap4 ?_ ?_ <;> first | exact True.intro | intro h) | (with_reducible refine tr_two ?_ ?_))
  ((with_reducible apply fp_ret); exact res_1 rfl rfl)
  exact HR.out _ _ _ [] (by (exact atks)) ⟨rfl, rfl⟩
set_option maxRecDepth 10000 in
set_option maxHeartbeats 1000000 in
theorem flatNodes_nil (r : Hp) : Tri Tryz.prog r 77 [.slice none 0 0] [] fun w H => w = .bool true ∧ H = [] := by
  refine Tri.free2 fun R HR => ?_
  refine fn_of_sw Tryz.func77 rfl _ rfl ?_; simp only [Tryz.ntmps77, List.length_cons, List.length_nil, Nat.reduceAdd, Nat.reduceSub, List.replicate_succ, List.replicate_zero, List.nil_append, List.cons_append]
  repeat' (first | (refine aw0m ?_) | (refine ap2 ?_ ?_ <;> first | exact True.intro | intro h) | (refine aw1m ?_) | (refine abx ?_; intro bb) | (refine abz ?_; intro bz) | (refine ahv ?_; intro v' hv') | (refine aac ?_; intro ac cc) | (refine aw2 ?_) | (refine ap4 ?_ ?_ <;> first | exact True.intro | intro h) | (with_reducible refine tr_two ?_ ?_))
  refine sw_loop (fun gm t H' => gm = 1 ∧ (∃ G, Takes [] H' G) ∧ (t.length = 193 ∧ t[0]? = some (.slice none 0 0) ∧ t[3]? = some (.int .i64 0))) _ ⟨rfl, ⟨[], by (exact atks)⟩, rfl, (by first | rfl | exact congrArg some (congrArg (Value.int _) (by omega)) | (congr 2 <;> omega)), (by first | rfl | exact congrArg some (congrArg (Value.int _) (by omega)) | (congr 2 <;> omega))⟩ ?_
  rintro gm t H' ⟨rfl, ⟨G, hp⟩, hlen, e0, e3⟩
  revert e0 e3; revert t; refine all_len (n := 193) ?_; iterate 193 intro uu'
  intro e0 e3; cases e0; cases e3
  refine sw_takeG hp ?_
  clear hp
  repeat' (first | ((with_reducible apply kx_make0 (c := 0)); exact ty_el; exact ty_inf; rfl; rfl; (omega); (omega); intro bm; (refine apk ?_)) | (refine aw0 ?_) | (refine ap2 ?_ ?_ <;> first | exact True.intro | intro h) | (refine aw1 ?_) | (refine abx ?_; intro bb) | (refine abz ?_; intro bz) | (refine ahv ?_; intro v' hv') | (refine aac ?_; intro ac cc) | (refine aw2 ?_) | (refine ap4 ?_ ?_ <;> first | exact True.intro | intro h) | (with_reducible refine tr_two ?_ ?_))
  refine sw_loop (fun gm t H' => gm = 1 ∧ (∃ G, Takes [] H' G) ∧ (t.length = 193 ∧ t[0]? = some (.slice none 0 0) ∧ t[5]? = some (.slice (some ⟨bm, 0, none⟩) 0 0) ∧ t[6]? = some (.int .i64 0))) _ ⟨rfl, ⟨_, by (exact atks)⟩, rfl, (by first | rfl | exact congrArg some (congrArg (Value.int _) (by omega)) | (congr 2 <;> omega)), (by first | rfl | exact congrArg some (congrArg (Value.int _) (by omega)) | (congr 2 <;> omega)), (by first | rfl | exact congrArg some (congrArg (Value.int _) (by omega)) | (congr 2 <;> omega))⟩ ?_
  rintro gm t H' ⟨rfl, ⟨G, hp⟩, hlen, e0, e5, e6⟩
  revert e0 e5 e6; revert t; refine all_len (n := 193) ?_; iterate 193 intro uu'
  intro e0 e5 e6; cases e0; cases e5; cases e6
  refine sw_takeG hp ?_
  clear hp
  repeat' (first | (refine aw0m ?_) | (refine ap2 ?_ ?_ <;> first | exact True.intro | intro h) | (refine aw1m ?_) | (refine abx ?_; intro bb) | (refine abz ?_; intro bz) | (refine ahv ?_; intro v' hv') | (refine aac ?_; intro ac cc) | (refine aw2 ?_) | (refine ap4 ?_ ?_ <;> first | exact True.intro | intro h) | (with_reducible refine tr_two ?_ ?_))
  refine sw_loop (fun gm t H' => gm = 1 ∧ (∃ G, Takes [] H' G) ∧ (t.length = 193 ∧ t[0]? = some (.slice none 0 0) ∧ t[5]? = some (.slice (some ⟨bm, 0, none⟩) 0 0) ∧ t[9]? = some (.int .i64 0))) _ ⟨rfl, ⟨_, by (exact atks)⟩, rfl, (by first | rfl | exact congrArg some (congrArg (Value.int _) (by omega)) | (congr 2 <;> omega)), (by first | rfl | exact congrArg some (congrArg (Value.int _) (by omega)) | (congr 2 <;> omega)), (by first | rfl | exact congrArg some (congrArg (Value.int _) (by omega)) | (congr 2 <;> omega))⟩ ?_
  rintro gm t H' ⟨rfl, ⟨G, hp⟩, hlen, e0, e5, e9⟩
  revert e0 e5 e9; revert t; refine all_len (n := 193) ?_; iterate 193 intro uu'
  intro e0 e5 e9; cases e0; cases e5; cases e9
  refine sw_takeG hp ?_
  clear hp
  repeat' (first | (refine aw0m ?_) | (refine ap2 ?_ ?_ <;> first | exact True.intro | intro h) | (refine aw1m ?_) | (refine abx ?_; intro bb) | (refine abz ?_; intro bz) | (refine ahv ?_; intro v' hv') | (refine aac ?_; intro ac cc) | (refine aw2 ?_) | (refine ap4 ?_ ?_ <;> first | exact True.intro | intro h) | (with_reducible refine tr_two ?_ ?_))
  refine sw_loop (fun gm t H' => gm = 1 ∧ (∃ G, Takes [] H' G) ∧ (t.length = 193 ∧ t[0]? = some (.slice none 0 0) ∧ t[5]? = some (.slice (some ⟨bm, 0, none⟩) 0 0) ∧ t[11]? = some (.int .i64 0))) _ ⟨rfl, ⟨_, by (exact atks)⟩, rfl, (by first | rfl | exact congrArg some (congrArg (Value.int _) (by omega)) | (congr 2 <;> omega)), (by first | rfl | exact congrArg some (congrArg (Value.int _) (by omega)) | (congr 2 <;> omega)), (by first | rfl | exact congrArg some (congrArg (Value.int _) (by omega)) | (congr 2 <;> omega))⟩ ?_
  rintro gm t H' ⟨rfl, ⟨G, hp⟩, hlen, e0, e5, e11⟩
  revert e0 e5 e11; revert t; refine all_len (n := 193) ?_; iterate 193 intro uu'
  intro e0 e5 e11; cases e0; cases e5; cases e11
  refine sw_takeG hp ?_
  clear hp
  repeat' (first | (refine aw0m ?_) | (refine ap2 ?_ ?_ <;> first | exact True.intro | intro h) | (refine aw1m ?_) | (refine abx ?_; intro bb) | (refine abz ?_; intro bz) | (refine ahv ?_; intro v' hv') | (refine aac ?_; intro ac cc) | (refine aw2 ?_) | (refine ap4 ?_ ?_ <;> first | exact True.intro | intro h) | (with_reducible refine tr_two ?_ ?_))
  refine sw_loop (fun gm t H' => gm = 1 ∧ (∃ G, Takes [] H' G) ∧ (t.length = 193 ∧ t[0]? = some (.slice none 0 0) ∧ t[5]? = some (.slice (some ⟨bm, 0, none⟩) 0 0) ∧ t[14]? = some (.int .i64 0))) _ ⟨rfl, ⟨_, by (exact atks)⟩, rfl, (by first | rfl | exact congrArg some (congrArg (Value.int _) (by omega)) | (congr 2 <;> omega)), (by first | rfl | exact congrArg some (congrArg (Value.int _) (by omega)) | (congr 2 <;> omega)), (by first | rfl | exact congrArg some (congrArg (Value.int _) (by omega)) | (congr 2 <;> omega))⟩ ?_
  rintro gm t H' ⟨rfl, ⟨G, hp⟩, hlen, e0, e5, e14⟩
  revert e0 e5 e14; revert t; refine all_len (n := 193) ?_; iterate 193 intro uu'
  intro e0 e5 e14; cases e0; cases e5; cases e14
  refine sw_takeG hp ?_
  clear hp
  repeat' (first | (refine aw0m ?_) | (refine ap2 ?_ ?_ <;> first | exact True.intro | intro h) | (refine aw1m ?_) | (refine abx ?_; intro bb) | (refine abz ?_; intro bz) | (refine ahv ?_; intro v' hv') | (refine aac ?_; intro ac cc) | (refine aw2 ?_) | (refine ap4 ?_ ?_ <;> first | exact True.intro | intro h) | (with_reducible refine tr_two ?_ ?_))
  ((with_reducible apply fp_ret); exact res_1 rfl rfl)
  exact HR.out _ _ _ [] (by (exact atks)) ⟨rfl, rfl⟩
set_option maxRecDepth 10000 in
set_option maxHeartbeats 1000000 in
theorem flatInsts_nil (r : Hp) : Tri Tryz.prog r 78 [.slice none 0 0] [] fun w H => w = .bool true ∧ H = [] := by
  refine Tri.free2 fun R HR => ?_
  refine fn_of_sw Tryz.func78 rfl _ rfl ?_; simp only [Tryz.ntmps78, List.length_cons, List.length_nil, Nat.reduceAdd, Nat.reduceSub, List.replicate_succ, List.replicate_zero, List.nil_append, List.cons_append]
  repeat' (first | (refine aw0m ?_) | (refine ap2 ?_ ?_ <;> first | exact True.intro | intro h) | (refine aw1m ?_) | (refine abx ?_; intro bb) | (refine abz ?_; intro bz) | (refine ahv ?_; intro v' hv') | (refine aac ?_; intro ac cc) | (refine aw2 ?_) | (refine ap4 ?_ ?_ <;> first | exact True.intro | intro h) | (with_reducible refine tr_two ?_ ?_))
  refine sw_loop (fun gm t H' => gm = 1 ∧ (∃ G, Takes [] H' G) ∧ (t.length = 193 ∧ t[0]? = some (.slice none 0 0) ∧ t[3]? = some (.int .i64 0))) _ ⟨rfl, ⟨[], by (exact atks)⟩, rfl, (by first | rfl | exact congrArg some (congrArg (Value.int _) (by omega)) | (congr 2 <;> omega)), (by first | rfl | exact congrArg some (congrArg (Value.int _) (by omega)) | (congr 2 <;> omega))⟩ ?_
  rintro gm t H' ⟨rfl, ⟨G, hp⟩, hlen, e0, e3⟩
  revert e0 e3; revert t; refine all_len (n := 193) ?_; iterate 193 intro uu'
  intro e0 e3; cases e0; cases e3
  refine sw_takeG hp ?_
  clear hp
  repeat' (first | ((with_reducible apply kx_make0 (c := 0)); exact ty_el; exact ty_inf; rfl; rfl; (omega); (omega); intro bm; (refine apk ?_)) | (refine aw0 ?_) | (refine ap2 ?_ ?_ <;> first | exact True.intro | intro h) | (refine aw1 ?_) | (refine abx ?_; intro bb) | (refine abz ?_; intro bz) | (refine ahv ?_; intro v' hv') | (refine aac ?_; intro ac cc) | (refine aw2 ?_) | (refine ap4 ?_ ?_ <;> first | exact True.intro | intro h) | (with_reducible refine tr_two ?_ ?_))
  refine sw_loop (fun gm t H' => gm = 1 ∧ (∃ G, Takes [] H' G) ∧ (t.length = 193 ∧ t[0]? = some (.slice none 0 0) ∧ t[5]? = some (.slice (some ⟨bm, 0, none⟩) 0 0) ∧ t[6]? = some (.int .i64 0))) _ ⟨rfl, ⟨_, by (exact atks)⟩, rfl, (by first | rfl | exact congrArg some (congrArg (Value.int _) (by omega)) | (congr 2 <;> omega)), (by first | rfl | exact congrArg some (congrArg (Value.int _) (by omega)) | (congr 2 <;> omega)), (by first | rfl | exact congrArg some (congrArg (Value.int _) (by omega)) | (congr 2 <;> omega))⟩ ?_
  rintro gm t H' ⟨rfl, ⟨G, hp⟩, hlen, e0, e5, e6⟩
  revert e0 e5 e6; revert t; refine all_len (n := 193) ?_; iterate 193 intro uu'
  intro e0 e5 e6; cases e0; cases e5; cases e6
  refine sw_takeG hp ?_
  clear hp
  repeat' (first | (refine aw0m ?_) | (refine ap2 ?_ ?_ <;> first | exact True.intro | intro h) | (refine aw1m ?_) | (refine abx ?_; intro bb) | (refine abz ?_; intro bz) | (refine ahv ?_; intro v' hv') | (refine aac ?_; intro ac cc) | (refine aw2 ?_) | (refine ap4 ?_ ?_ <;> first | exact True.intro | intro h) | (with_reducible refine tr_two ?_ ?_))
  refine sw_loop (fun gm t H' => gm = 1 ∧ (∃ G, Takes [] H' G) ∧ (t.length = 193 ∧ t[0]? = some (.slice none 0 0) ∧ t[5]? = some (.slice (some ⟨bm, 0, none⟩) 0 0) ∧ t[9]? = some (.int .i64 0))) _ ⟨rfl, ⟨_, by (exact atks)⟩, rfl, (by first | rfl | exact congrArg some (congrArg (Value.int _) (by omega)) | (congr 2 <;> omega)), (by first | rfl | exact congrArg some (congrArg (Value.int _) (by omega)) | (congr 2 <;> omega)), (by first | rfl | exact congrArg some (congrArg (Value.int _) (by omega)) | (congr 2 <;> omega))⟩ ?_
  rintro gm t H' ⟨rfl, ⟨G, hp⟩, hlen, e0, e5, e9⟩
  revert e0 e5 e9; revert t; refine all_len (n := 193) ?_; iterate 193 intro uu'
  intro e0 e5 e9; cases e0; cases e5; cases e9
  refine sw_takeG hp ?_
  clear hp
  repeat' (first | (refine aw0m ?_) | (refine ap2 ?_ ?_ <;> first | exact True.intro | intro h) | (refine aw1m ?_) | (refine abx ?_; intro bb) | (refine abz ?_; intro bz) | (refine ahv ?_; intro v' hv') | (refine aac ?_; intro ac cc) | (refine aw2 ?_) | (refine ap4 ?_ ?_ <;> first | exact True.intro | intro h) | (with_reducible refine tr_two ?_ ?_))
  refine sw_loop (fun gm t H' => gm = 1 ∧ (∃ G, Takes [] H' G) ∧ (t.length = 193 ∧ t[0]? = some (.slice none 0 0) ∧ t[5]? = some (.slice (some ⟨bm, 0, none⟩) 0 0) ∧ t[11]? = some (.int .i64 0))) _ ⟨rfl, ⟨_, by (exact atks)⟩, rfl, (by first | rfl | exact congrArg some (congrArg (Value.int _) (by omega)) | (congr 2 <;> omega)), (by first | rfl | exact congrArg some (congrArg (Value.int _) (by omega)) | (congr 2 <;> omega)), (by first | rfl | exact congrArg some (congrArg (Value.int _) (by omega)) | (congr 2 <;> omega))⟩ ?_
  rintro gm t H' ⟨rfl, ⟨G, hp⟩, hlen, e0, e5, e11⟩
  revert e0 e5 e11; revert t; refine all_len (n := 193) ?_; iterate 193 intro uu'
  intro e0 e5 e11; cases e0; cases e5; cases e11
  refine sw_takeG hp ?_
  clear hp
  repeat' (first | (refine aw0m ?_) | (refine ap2 ?_ ?_ <;> first | exact True.intro | intro h) | (refine aw1m ?_) | (refine abx ?_; intro bb) | (refine abz ?_; intro bz) | (refine ahv ?_; intro v' hv') | (refine aac ?_; intro ac cc) | (refine aw2 ?_) | (refine ap4 ?_ ?_ <;> first | exact True.intro | intro h) | (with_reducible refine tr_two ?_ ?_))
  refine sw_loop (fun gm t H' => gm = 1 ∧ (∃ G, Takes [] H' G) ∧ (t.length = 193 ∧ t[0]? = some (.slice none 0 0) ∧ t[5]? = some (.slice (some ⟨bm, 0, none⟩) 0 0) ∧ t[14]? = some (.int .i64 0))) _ ⟨rfl, ⟨_, by (exact atks)⟩, rfl, (by first | rfl | exact congrArg some (congrArg (Value.int _) (by omega)) | (congr 2 <;> omega)), (by first | rfl | exact congrArg some (congrArg (Value.int _) (by omega)) | (congr 2 <;> omega)), (by first | rfl | exact congrArg some (congrArg (Value.int _) (by omega)) | (congr 2 <;> omega))⟩ ?_
  rintro gm t H' ⟨rfl, ⟨G, hp⟩, hlen, e0, e5, e14⟩
  revert e0 e5 e14; revert t; refine all_len (n := 193) ?_; iterate 193 intro uu'
  intro e0 e5 e14; cases e0; cases e5; cases e14
  refine sw_takeG hp ?_
  clear hp
  repeat' (first | (refine aw0m ?_) | (refine ap2 ?_ ?_ <;> first | exact True.intro | intro h) | (refine aw1m ?_) | (refine abx ?_; intro bb) | (refine abz ?_; intro bz) | (refine ahv ?_; intro v' hv') | (refine aac ?_; intro ac cc) | (refine aw2 ?_) | (refine ap4 ?_ ?_ <;> first | exact True.intro | intro h) | (with_reducible refine tr_two ?_ ?_))
  ((with_reducible apply fp_ret); exact res_1 rfl rfl)
  exact HR.out _ _ _ [] (by (exact atks)) ⟨rfl, rfl⟩
set_option maxRecDepth 10000 in
set_option maxHeartbeats 1000000 in
theorem flatQueries_nil (r : Hp) : Tri Tryz.prog r 79 [.slice none 0 0] [] fun w H => w = .bool true ∧ H = [] := by
  refine Tri.free2 fun R HR => ?_
  refine fn_of_sw Tryz.func79 rfl _ rfl ?_; simp only [Tryz.ntmps79, List.length_cons, List.length_nil, Nat.reduceAdd, Nat.reduceSub, List.replicate_succ, List.replicate_zero, List.nil_append, List.cons_append]
  repeat' (first | (refine aw0m ?_) | (refine ap2 ?_ ?_ <;> first | exact True.intro | intro h) | (refine aw1m ?_) | (refine abx ?_; intro bb) | (refine abz ?_; intro bz) | (refine ahv ?_; intro v' hv') | (refine aac ?_; intro ac cc) | (refine aw2 ?_) | (refine ap4 ?_ ?_ <;> first | exact True.intro | intro h) | (with_reducible refine tr_two ?_ ?_))
  refine sw_loop (fun gm t H' => gm = 1 ∧ (∃ G, Takes [] H' G) ∧ (t.length = 193 ∧ t[0]? = some (.slice none 0 0) ∧ t[3]? = some (.int .i64 0))) _ ⟨rfl, ⟨[], by (exact atks)⟩, rfl, (by first | rfl | exact congrArg some (congrArg (Value.int _) (by omega)) | (congr 2 <;> omega)), (by first | rfl | exact congrArg some (congrArg (Value.int _) (by omega)) | (congr 2 <;> omega))⟩ ?_
  rintro gm t H' ⟨rfl, ⟨G, hp⟩, hlen, e0, e3⟩
  revert e0 e3; revert t; refine all_len (n := 193) ?_; iterate 193 intro uu'
  intro e0 e3; cases e0; cases e3
  refine sw_takeG hp ?_
  clear hp
  repeat' (first | ((with_reducible apply kx_make0 (c := 0)); exact ty_el; exact ty_inf; rfl; rfl; (omega); (omega); intro bm; (refine apk ?_)) | (refine aw0 ?_) | (refine ap2 ?_ ?_ <;> first | exact True.intro | intro h) | (refine aw1 ?_) | (refine abx ?_; intro bb) | (refine abz ?_; intro bz) | (refine ahv ?_; intro v' hv') | (refine aac ?_; intro ac cc) | (refine aw2 ?_) | (refine ap4 ?_ ?_ <;> first | exact True.intro | intro h) | (with_reducible refine tr_two ?_ ?_))
  refine sw_loop (fun gm t H' => gm = 1 ∧ (∃ G, Takes [] H' G) ∧ (t.length = 193 ∧ t[0]? = some (.slice none 0 0) ∧ t[5]? = some (.slice (some ⟨bm, 0, none⟩) 0 0) ∧ t[6]? = some (.int .i64 0))) _ ⟨rfl, ⟨_, by (exact atks)⟩, rfl, (by first | rfl | exact congrArg some (congrArg (Value.int _) (by omega)) | (congr 2 <;> omega)), (by first | rfl | exact congrArg some (congrArg (Value.int _) (by omega)) | (congr 2 <;> omega)), (by first | rfl | exact congrArg some (congrArg (Value.int _) (by omega)) | (congr 2 <;> omega))⟩ ?_
  rintro gm t H' ⟨rfl, ⟨G, hp⟩, hlen, e0, e5, e6⟩
  revert e0 e5 e6; revert t; refine all_len (n := 193) ?_; iterate 193 intro uu'
  intro e0 e5 e6; cases e0; cases e5; cases e6
  refine sw_takeG hp ?_
  clear hp
  repeat' (first | (refine aw0m ?_) | (refine ap2 ?_ ?_ <;> first | exact True.intro | intro h) | (refine aw1m ?_) | (refine abx ?_; intro bb) | (refine abz ?_; intro bz) | (refine ahv ?_; intro v' hv') | (refine aac ?_; intro ac cc) | (refine aw2 ?_) | (refine ap4 ?_ ?_ <;> first | exact True.intro | intro h) | (with_reducible refine tr_two ?_ ?_))
  refine sw_loop (fun gm t H' => gm = 1 ∧ (∃ G, Takes [] H' G) ∧ (t.length = 193 ∧ t[0]? = some (.slice none 0 0) ∧ t[5]? = some (.slice (some ⟨bm, 0, none⟩) 0 0) ∧ t[9]? = some (.int .i64 0))) _ ⟨rfl, ⟨_, by (exact atks)⟩, rfl, (by first | rfl | exact congrArg some (congrArg (Value.int _) (by omega)) | (congr 2 <;> omega)), (by first | rfl | exact congrArg some (congrArg (Value.int _) (by omega)) | (congr 2 <;> omega)), (by first | rfl | exact congrArg some (congrArg (Value.int _) (by omega)) | (congr 2 <;> omega))⟩ ?_
  rintro gm t H' ⟨rfl, ⟨G, hp⟩, hlen, e0, e5, e9⟩
  revert e0 e5 e9; revert t; refine all_len (n := 193) ?_; iterate 193 intro uu'
  intro e0 e5 e9; cases e0; cases e5; cases e9
  refine sw_takeG hp ?_
  clear hp
  repeat' (first | (refine aw0m ?_) | (refine ap2 ?_ ?_ <;> first | exact True.intro | intro h) | (refine aw1m ?_) | (refine abx ?_; intro bb) | (refine abz ?_; intro bz) | (refine ahv ?_; intro v' hv') | (refine aac ?_; intro ac cc) | (refine aw2 ?_) | (refine ap4 ?_ ?_ <;> first | exact True.intro | intro h) | (with_reducible refine tr_two ?_ ?_))
  refine sw_loop (fun gm t H' => gm = 1 ∧ (∃ G, Takes [] H' G) ∧ (t.length = 193 ∧ t[0]? = some (.slice none 0 0) ∧ t[5]? = some (.slice (some ⟨bm, 0, none⟩) 0 0) ∧ t[11]? = some (.int .i64 0))) _ ⟨rfl, ⟨_, by (exact atks)⟩, rfl, (by first | rfl | exact congrArg some (congrArg (Value.int _) (by omega)) | (congr 2 <;> omega)), (by first | rfl | exact congrArg some (congrArg (Value.int _) (by omega)) | (congr 2 <;> omega)), (by first | rfl | exact congrArg some (congrArg (Value.int _) (by omega)) | (congr 2 <;> omega))⟩ ?_
  rintro gm t H' ⟨rfl, ⟨G, hp⟩, hlen, e0, e5, e11⟩
  revert e0 e5 e11; revert t; refine all_len (n := 193) ?_; iterate 193 intro uu'
  intro e0 e5 e11; cases e0; cases e5; cases e11
  refine sw_takeG hp ?_
  clear hp
  repeat' (first | (refine aw0m ?_) | (refine ap2 ?_ ?_ <;> first | exact True.intro | intro h) | (refine aw1m ?_) | (refine abx ?_; intro bb) | (refine abz ?_; intro bz) | (refine ahv ?_; intro v' hv') | (refine aac ?_; intro ac cc) | (refine aw2 ?_) | (refine ap4 ?_ ?_ <;> first | exact True.intro | intro h) | (with_reducible refine tr_two ?_ ?_))
  refine sw_loop (fun gm t H' => gm = 1 ∧ (∃ G, Takes [] H' G) ∧ (t.length = 193 ∧ t[0]? = some (.slice none 0 0) ∧ t[5]? = some (.slice (some ⟨bm, 0, none⟩) 0 0) ∧ t[14]? = some (.int .i64 0))) _ ⟨rfl, ⟨_, by (exact atks)⟩, rfl, (by first | rfl | exact congrArg some (congrArg (Value.int _) (by omega)) | (congr 2 <;> omega)), (by first | rfl | exact congrArg some (congrArg (Value.int _) (by omega)) | (congr 2 <;> omega)), (by first | rfl | exact congrArg some (congrArg (Value.int _) (by omega)) | (congr 2 <;> omega))⟩ ?_
  rintro gm t H' ⟨rfl, ⟨G, hp⟩, hlen, e0, e5, e14⟩
  revert e0 e5 e14; revert t; refine all_len (n := 193) ?_; iterate 193 intro uu'
  intro e0 e5 e14; cases e0; cases e5; cases e14
  refine sw_takeG hp ?_
  clear hp
  repeat' (first | (refine aw0m ?_) | (refine ap2 ?_ ?_ <;> first | exact True.intro | intro h) | (refine aw1m ?_) | (refine abx ?_; intro bb) | (refine abz ?_; intro bz) | (refine ahv ?_; intro v' hv') | (refine aac ?_; intro ac cc) | (refine aw2 ?_) | (refine ap4 ?_ ?_ <;> first | exact True.intro | intro h) | (with_reducible refine tr_two ?_ ?_))
  ((with_reducible apply fp_ret); exact res_1 rfl rfl)
  exact HR.out _ _ _ [] (by (exact atks)) ⟨rfl, rfl⟩
set_option maxRecDepth 10000 in
set_option maxHeartbeats 1000000 in
theorem flatFiles_nil (r : Hp) : Tri Tryz.prog r 80 [.slice none 0 0] [] fun w H => w = .bool true ∧ H = [] := by
  refine Tri.free2 fun R HR => ?_
  refine fn_of_sw Tryz.func80 rfl _ rfl ?_; simp only [Tryz.ntmps80, List.length_cons, List.length_nil, Nat.reduceAdd, Nat.reduceSub, List.replicate_succ, List.replicate_zero, List.nil_append, List.cons_append]
  repeat' (first | (refine aw0m ?_) | (refine ap2 ?_ ?_ <;> first | exact True.intro | intro h) | (refine aw1m ?_) | (refine abx ?_; intro bb) | (refine abz ?_; intro bz) | (refine ahv ?_; intro v' hv') | (refine aac ?_; intro ac cc) | (refine aw2 ?_) | (refine ap4 ?_ ?_ <;> first | exact True.intro | intro h) | (with_reducible refine tr_two ?_ ?_))
  refine sw_loop (fun gm t H' => gm = 1 ∧ (∃ G, Takes [] H' G) ∧ (t.length = 193 ∧ t[0]? = some (.slice none 0 0) ∧ t[3]? = some (.int .i64 0))) _ ⟨rfl, ⟨[], by (exact atks)⟩, rfl, (by first | rfl | exact congrArg some (congrArg (Value.int _) (by omega)) | (congr 2 <;> omega)), (by first | rfl | exact congrArg some (congrArg (Value.int _) (by omega)) | (congr 2 <;> omega))⟩ ?_
  rintro gm t H' ⟨rfl, ⟨G, hp⟩, hlen, e0, e3⟩
  revert e0 e3; revert t; refine all_len (n := 193) ?_; iterate 193 intro uu'
  intro e0 e3; cases e0; cases e3
  refine sw_takeG hp ?_
  clear hp
  repeat' (first | ((with_reducible apply kx_make0 (c := 0)); exact ty_el; exact ty_inf; rfl; rfl; (omega); (omega); intro bm; (refine apk ?_)) | (refine aw0 ?_) | (refine ap2 ?_ ?_ <;> first | exact True.intro | intro h) | (refine aw1 ?_) | (refine abx ?_; intro bb) | (refine abz ?_; intro bz) | (refine ahv ?_; intro v' hv') | (refine aac ?_; intro ac cc) | (refine aw2 ?_) | (refine ap4 ?_ ?_ <;> first | exact True.intro | intro h) | (with_reducible refine tr_two ?_ ?_))
  refine sw_loop (fun gm t H' => gm = 1 ∧ (∃ G, Takes [] H' G) ∧ (t.length = 193 ∧ t[0]? = some (.slice none 0 0) ∧ t[5]? = some (.slice (some ⟨bm, 0, none⟩) 0 0) ∧ t[6]? = some (.int .i64 0))) _ ⟨rfl, ⟨_, by (exact atks)⟩, rfl, (by first | rfl | exact congrArg some (congrArg (Value.int _) (by omega)) | (congr 2 <;> omega)), (by first | rfl | exact congrArg some (congrArg (Value.int _) (by omega)) | (congr 2 <;> omega)), (by first | rfl | exact congrArg some (congrArg (Value.int _) (by omega)) | (congr 2 <;> omega))⟩ ?_
  rintro gm t H' ⟨rfl, ⟨G, hp⟩, hlen, e0, e5, e6⟩
  revert e0 e5 e6; revert t; refine all_len (n := 193) ?_; iterate 193 intro uu'
  intro e0 e5 e6; cases e0; cases e5; cases e6
  refine sw_takeG hp ?_
  clear hp
  repeat' (first | (refine aw0m ?_) | (refine ap2 ?_ ?_ <;> first | exact True.intro | intro h) | (refine aw1m ?_) | (refine abx ?_; intro bb) | (refine abz ?_; intro bz) | (refine ahv ?_; intro v' hv') | (refine aac ?_; intro ac cc) | (refine aw2 ?_) | (refine ap4 ?_ ?_ <;> first | exact True.intro | intro h) | (with_reducible refine tr_two ?_ ?_))
  refine sw_loop (fun gm t H' => gm = 1 ∧ (∃ G, Takes [] H' G) ∧ (t.length = 193 ∧ t[0]? = some (.slice none 0 0) ∧ t[5]? = some (.slice (some ⟨bm, 0, none⟩) 0 0) ∧ t[9]? = some (.int .i64 0))) _ ⟨rfl, ⟨_, by (exact atks)⟩, rfl, (by first | rfl | exact congrArg some (congrArg (Value.int _) (by omega)) | (congr 2 <;> omega)), (by first | rfl | exact congrArg some (congrArg (Value.int _) (by omega)) | (congr 2 <;> omega)), (by first | rfl | exact congrArg some (congrArg (Value.int _) (by omega)) | (congr 2 <;> omega))⟩ ?_
  rintro gm t H' ⟨rfl, ⟨G, hp⟩, hlen, e0, e5, e9⟩
  revert e0 e5 e9; revert t; refine all_len (n := 193) ?_; iterate 193 intro uu'
  intro e0 e5 e9; cases e0; cases e5; cases e9
  refine sw_takeG hp ?_
  clear hp
  repeat' (first | (refine aw0m ?_) | (refine ap2 ?_ ?_ <;> first | exact True.intro | intro h) | (refine aw1m ?_) | (refine abx ?_; intro bb) | (refine abz ?_; intro bz) | (refine ahv ?_; intro v' hv') | (refine aac ?_; intro ac cc) | (refine aw2 ?_) | (refine ap4 ?_ ?_ <;> first | exact True.intro | intro h) | (with_reducible refine tr_two ?_ ?_))
  refine sw_loop (fun gm t H' => gm = 1 ∧ (∃ G, Takes [] H' G) ∧ (t.length = 193 ∧ t[0]? = some (.slice none 0 0) ∧ t[5]? = some (.slice (some ⟨bm, 0, none⟩) 0 0) ∧ t[11]? = some (.int .i64 0))) _ ⟨rfl, ⟨_, by (exact atks)⟩, rfl, (by first | rfl | exact congrArg some (congrArg (Value.int _) (by omega)) | (congr 2 <;> omega)), (by first | rfl | exact congrArg some (congrArg (Value.int _) (by omega)) | (congr 2 <;> omega)), (by first | rfl | exact congrArg some (congrArg (Value.int _) (by omega)) | (congr 2 <;> omega))⟩ ?_
  rintro gm t H' ⟨rfl, ⟨G, hp⟩, hlen, e0, e5, e11⟩
  revert e0 e5 e11; revert t; refine all_len (n := 193) ?_; iterate 193 intro uu'
  intro e0 e5 e11; cases e0; cases e5; cases e11
  refine sw_takeG hp ?_
  clear hp
  repeat' (first | (refine aw0m ?_) | (refine ap2 ?_ ?_ <;> first | exact True.intro | intro h) | (refine aw1m ?_) | (refine abx ?_; intro bb) | (refine abz ?_; intro bz) | (refine ahv ?_; intro v' hv') | (refine aac ?_; intro ac cc) | (refine aw2 ?_) | (refine ap4 ?_ ?_ <;> first | exact True.intro | intro h) | (with_reducible refine tr_two ?_ ?_))
  refine sw_loop (fun gm t H' => gm = 1 ∧ (∃ G, Takes [] H' G) ∧ (t.length = 193 ∧ t[0]? = some (.slice none 0 0) ∧ t[5]? = some (.slice (some ⟨bm, 0, none⟩) 0 0) ∧ t[14]? = some (.int .i64 0))) _ ⟨rfl, ⟨_, by (exact atks)⟩, rfl, (by first | rfl | exact congrArg some (congrArg (Value.int _) (by omega)) | (congr 2 <;> omega)), (by first | rfl | exact congrArg some (congrArg (Value.int _) (by omega)) | (congr 2 <;> omega)), (by first | rfl | exact congrArg some (congrArg (Value.int _) (by omega)) | (congr 2 <;> omega))⟩ ?_
  rintro gm t H' ⟨rfl, ⟨G, hp⟩, hlen, e0, e5, e14⟩
  revert e0 e5 e14; revert t; refine all_len (n := 193) ?_; iterate 193 intro uu'
  intro e0 e5 e14; cases e0; cases e5; cases e14
  refine sw_takeG hp ?_
  clear hp
  repeat' (first | (refine aw0m ?_) | (refine ap2 ?_ ?_ <;> first | exact True.intro | intro h) | (refine aw1m ?_) | (refine abx ?_; intro bb) | (refine abz ?_; intro bz) | (refine ahv ?_; intro v' hv') | (refine aac ?_; intro ac cc) | (refine aw2 ?_) | (refine ap4 ?_ ?_ <;> first | exact True.intro | intro h) | (with_reducible refine tr_two ?_ ?_))
  ((with_reducible apply fp_ret); exact res_1 rfl rfl)
  exact HR.out _ _ _ [] (by (exact atks)) ⟨rfl, rfl⟩
set_option maxRecDepth 10000 in
set_option maxHeartbeats 1000000 in
theorem flatDocs_nil (r : Hp) : Tri Tryz.prog r 81 [.slice none 0 0] [] fun w H => w = .bool true ∧ H = [] := by
  refine Tri.free2 fun R HR => ?_
  refine fn_of_sw Tryz.func81 rfl _ rfl ?_; simp only [Tryz.ntmps81, List.length_cons, List.length_nil, Nat.reduceAdd, Nat.reduceSub, List.replicate_succ, List.replicate_zero, List.nil_append, List.cons_append]
  repeat' (first | (refine aw0m ?_) | (refine ap2 ?_ ?_ <;> first | exact True.intro | intro h) | (refine aw1m ?_) | (refine abx ?_; intro bb) | (refine abz ?_; intro bz) | (refine ahv ?_; intro v' hv') | (refine aac ?_; intro ac cc) | (refine aw2 ?_) | (refine ap4 ?_ ?_ <;> first | exact True.intro | intro h) | (with_reducible refine tr_two ?_ ?_))
  refine sw_loop (fun gm t H' => gm = 1 ∧ (∃ G, Takes [] H' G) ∧ (t.length = 193 ∧ t[0]? = some (.slice none 0 0) ∧ t[3]? = some (.int .i64 0))) _ ⟨rfl, ⟨[], by (exact atks)⟩, rfl, (by first | rfl | exact congrArg some (congrArg (Value.int _) (by omega)) | (congr 2 <;> omega)), (by first | rfl | exact congrArg some (congrArg (Value.int _) (by omega)) | (congr 2 <;> omega))⟩ ?_
  rintro gm t H' ⟨rfl, ⟨G, hp⟩, hlen, e0, e3⟩
  revert e0 e3; revert t; refine all_len (n := 193) ?_; iterate 193 intro uu'
  intro e0 e3; cases e0; cases e3
  refine sw_takeG hp ?_
  clear hp
  repeat' (first | ((with_reducible apply kx_make0 (c := 0)); exact ty_el; exact ty_inf; rfl; rfl; (omega); (omega); intro bm; (refine apk ?_)) | (refine aw0 ?_) | (refine ap2 ?_ ?_ <;> first | exact True.intro | intro h) | (refine aw1 ?_) | (refine abx ?_; intro bb) | (refine abz ?_; intro bz) | (refine ahv ?_; intro v' hv') | (refine aac ?_; intro ac cc) | (refine aw2 ?_) | (refine ap4 ?_ ?_ <;> first | exact True.intro | intro h) | (with_reducible refine tr_two ?_ ?_))
  refine sw_loop (fun gm t H' => gm = 1 ∧ (∃ G, Takes [] H' G) ∧ (t.length = 193 ∧ t[0]? = some (.slice none 0 0) ∧ t[5]? = some (.slice (some ⟨bm, 0, none⟩) 0 0) ∧ t[6]? = some (.int .i64 0))) _ ⟨rfl, ⟨_, by (exact atks)⟩, rfl, (by first | rfl | exact congrArg some (congrArg (Value.int _) (by omega)) | (congr 2 <;> omega)), (by first | rfl | exact congrArg some (congrArg (Value.int _) (by omega)) | (congr 2 <;> omega)), (by first | rfl | exact congrArg some (congrArg (Value.int _) (by omega)) | (congr 2 <;> omega))⟩ ?_
  rintro gm t H' ⟨rfl, ⟨G, hp⟩, hlen, e0, e5, e6⟩
  revert e0 e5 e6; revert t; refine all_len (n := 193) ?_; iterate 193 intro uu'
  intro e0 e5 e6; cases e0; cases e5; cases e6
  refine sw_takeG hp ?_
  clear hp
  repeat' (first | (refine aw0m ?_) | (refine ap2 ?_ ?_ <;> first | exact True.intro | intro h) | (refine aw1m ?_) | (refine abx ?_; intro bb) | (refine abz ?_; intro bz) | (refine ahv ?_; intro v' hv') | (refine aac ?_; intro ac cc) | (refine aw2 ?_) | (refine ap4 ?_ ?_ <;> first | exact True.intro | intro h) | (with_reducible refine tr_two ?_ ?_))
  refine sw_loop (fun gm t H' => gm = 1 ∧ (∃ G, Takes [] H' G) ∧ (t.length = 193 ∧ t[0]? = some (.slice none 0 0) ∧ t[5]? = some (.slice (some ⟨bm, 0, none⟩) 0 0) ∧ t[9]? = some (.int .i64 0))) _ ⟨rfl, ⟨_, by (exact atks)⟩, rfl, (by first | rfl | exact congrArg some (congrArg (Value.int _) (by omega)) | (congr 2 <;> omega)), (by first | rfl | exact congrArg some (congrArg (Value.int _) (by omega)) | (congr 2 <;> omega)), (by first | rfl | exact congrArg some (congrArg (Value.int _) (by omega)) | (congr 2 <;> omega))⟩ ?_
  rintro gm t H' ⟨rfl, ⟨G, hp⟩, hlen, e0, e5, e9⟩
  revert e0 e5 e9; revert t; refine all_len (n := 193) ?_; iterate 193 intro uu'
  intro e0 e5 e9; cases e0; cases e5; cases e9
  refine sw_takeG hp ?_
  clear hp
  repeat' (first | (refine aw0m ?_) | (refine ap2 ?_ ?_ <;> first | exact True.intro | intro h) | (refine aw1m ?_) | (refine abx ?_; intro bb) | (refine abz ?_; intro bz) | (refine ahv ?_; intro v' hv') | (refine aac ?_; intro ac cc) | (refine aw2 ?_) | (refine ap4 ?_ ?_ <;> first | exact True.intro | intro h) | (with_reducible refine tr_two ?_ ?_))
  refine sw_loop (fun gm t H' => gm = 1 ∧ (∃ G, Takes [] H' G) ∧ (t.length = 193 ∧ t[0]? = some (.slice none 0 0) ∧ t[5]? = some (.slice (some ⟨bm, 0, none⟩) 0 0) ∧ t[11]? = some (.int .i64 0))) _ ⟨rfl, ⟨_, by (exact atks)⟩, rfl, (by first | rfl | exact congrArg some (congrArg (Value.int _) (by omega)) | (congr 2 <;> omega)), (by first | rfl | exact congrArg some (congrArg (Value.int _) (by omega)) | (congr 2 <;> omega)), (by first | rfl | exact congrArg some (congrArg (Value.int _) (by omega)) | (congr 2 <;> omega))⟩ ?_
  rintro gm t H' ⟨rfl, ⟨G, hp⟩, hlen, e0, e5, e11⟩
  revert e0 e5 e11; revert t; refine all_len (n := 193) ?_; iterate 193 intro uu'
  intro e0 e5 e11; cases e0; cases e5; cases e11
  refine sw_takeG hp ?_
  clear hp
  repeat' (first | (refine aw0m ?_) | (refine ap2 ?_ ?_ <;> first | exact True.intro | intro h) | (refine aw1m ?_) | (refine abx ?_; intro bb) | (refine abz ?_; intro bz) | (refine ahv ?_; intro v' hv') | (refine aac ?_; intro ac cc) | (refine aw2 ?_) | (refine ap4 ?_ ?_ <;> first | exact True.intro | intro h) | (with_reducible refine tr_two ?_ ?_))
  refine sw_loop (fun gm t H' => gm = 1 ∧ (∃ G, Takes [] H' G) ∧ (t.length = 193 ∧ t[0]? = some (.slice none 0 0) ∧ t[5]? = some (.slice (some ⟨bm, 0, none⟩) 0 0) ∧ t[14]? = some (.int .i64 0))) _ ⟨rfl, ⟨_, by (exact atks)⟩, rfl, (by first | rfl | exact congrArg some (congrArg (Value.int _) (by omega)) | (congr 2 <;> omega)), (by first | rfl | exact congrArg some (congrArg (Value.int _) (by omega)) | (congr 2 <;> omega)), (by first | rfl | exact congrArg some (congrArg (Value.int _) (by omega)) | (congr 2 <;> omega))⟩ ?_
  rintro gm t H' ⟨rfl, ⟨G, hp⟩, hlen, e0, e5, e14⟩
  revert e0 e5 e14; revert t; refine all_len (n := 193) ?_; iterate 193 intro uu'
  intro e0 e5 e14; cases e0; cases e5; cases e14
  refine sw_takeG hp ?_
  clear hp
  repeat' (first | (refine aw0m ?_) | (refine ap2 ?_ ?_ <;> first | exact True.intro | intro h) | (refine aw1m ?_) | (refine abx ?_; intro bb) | (refine abz ?_; intro bz) | (refine ahv ?_; intro v' hv') | (refine aac ?_; intro ac cc) | (refine aw2 ?_) | (refine ap4 ?_ ?_ <;> first | exact True.intro | intro h) | (with_reducible refine tr_two ?_ ?_))
  ((with_reducible apply fp_ret); exact res_1 rfl rfl)
  exact HR.out _ _ _ [] (by (exact atks)) ⟨rfl, rfl⟩
set_option maxRecDepth 10000 in
set_option maxHeartbeats 1000000 in
theorem flatPlaces_nil (r : Hp) : Tri Tryz.prog r 82 [.slice none 0 0] [] fun w H => w = .bool true ∧ H = [] := by
  refine Tri.free2 fun R HR => ?_
  refine fn_of_sw Tryz.func82 rfl _ rfl ?_; simp only [Tryz.ntmps82, List.length_cons, List.length_nil, Nat.reduceAdd, Nat.reduceSub, List.replicate_succ, List.replicate_zero, List.nil_append, List.cons_append]
  repeat' (first | (refine aw0m ?_) | (refine ap2 ?_ ?_ <;> first | exact True.intro | intro h) | (refine aw1m ?_) | (refine abx ?_; intro bb) | (refine abz ?_; intro bz) | (refine ahv ?_; intro v' hv') | (refine aac ?_; intro ac cc) | (refine aw2 ?_) | (refine ap4 ?_ ?_ <;> first | exact True.intro | intro h) | (with_reducible refine tr_two ?_ ?_))
  refine sw_loop (fun gm t H' => gm = 1 ∧ (∃ G, Takes [] H' G) ∧ (t.length = 193 ∧ t[0]? = some (.slice none 0 0) ∧ t[3]? = some (.int .i64 0))) _ ⟨rfl, ⟨[], by (exact atks)⟩, rfl, (by first | rfl | exact congrArg some (congrArg (Value.int _) (by omega)) | (congr 2 <;> omega)), (by first | rfl | exact congrArg some (congrArg (Value.int _) (by omega)) | (congr 2 <;> omega))⟩ ?_
  rintro gm t H' ⟨rfl, ⟨G, hp⟩, hlen, e0, e3⟩
  revert e0 e3; revert t; refine all_len (n := 193) ?_; iterate 193 intro uu'
  intro e0 e3; cases e0; cases e3
  refine sw_takeG hp ?_
  clear hp
  repeat' (first | ((with_reducible apply kx_make0 (c := 0)); exact ty_el; exact ty_inf; rfl; rfl; (omega); (omega); intro bm; (refine apk ?_)) | (refine aw0 ?_) | (refine ap2 ?_ ?_ <;> first | exact True.intro | intro h) | (refine aw1 ?_) | (refine abx ?_; intro bb) | (refine abz ?_; intro bz) | (refine ahv ?_; intro v' hv') | (refine aac ?_; intro ac cc) | (refine aw2 ?_) | (refine ap4 ?_ ?_ <;> first | exact True.intro | intro h) | (with_reducible refine tr_two ?_ ?_))
  refine sw_loop (fun gm t H' => gm = 1 ∧ (∃ G, Takes [] H' G) ∧ (t.length = 193 ∧ t[0]? = some (.slice none 0 0) ∧ t[5]? = some (.slice (some ⟨bm, 0, none⟩) 0 0) ∧ t[6]? = some (.int .i64 0))) _ ⟨rfl, ⟨_, by (exact atks)⟩, rfl, (by first | rfl | exact congrArg some (congrArg (Value.int _) (by omega)) | (congr 2 <;> omega)), (by first | rfl | exact congrArg some (congrArg (Value.int _) (by omega)) | (congr 2 <;> omega)), (by first | rfl | exact congrArg some (congrArg (Value.int _) (by omega)) | (congr 2 <;> omega))⟩ ?_
  rintro gm t H' ⟨rfl, ⟨G, hp⟩, hlen, e0, e5, e6⟩
  revert e0 e5 e6; revert t; refine all_len (n := 193) ?_; iterate 193 intro uu'
  intro e0 e5 e6; cases e0; cases e5; cases e6
  refine sw_takeG hp ?_
  clear hp
  repeat' (first | (refine aw0m ?_) | (refine ap2 ?_ ?_ <;> first | exact True.intro | intro h) | (refine aw1m ?_) | (refine abx ?_; intro bb) | (refine abz ?_; intro bz) | (refine ahv ?_; intro v' hv') | (refine aac ?_; intro ac cc) | (refine aw2 ?_) | (refine ap4 ?_ ?_ <;> first | exact True.intro | intro h) | (with_reducible refine tr_two ?_ ?_))
  refine sw_loop (fun gm t H' => gm = 1 ∧ (∃ G, Takes [] H' G) ∧ (t.length = 193 ∧ t[0]? = some (.slice none 0 0) ∧ t[5]? = some (.slice (some ⟨bm, 0, none⟩) 0 0) ∧ t[9]? = some (.int .i64 0))) _ ⟨rfl, ⟨_, by (exact atks)⟩, rfl, (by first | rfl | exact congrArg some (congrArg (Value.int _) (by omega)) | (congr 2 <;> omega)), (by first | rfl | exact congrArg some (congrArg (Value.int _) (by omega)) | (congr 2 <;> omega)), (by first | rfl | exact congrArg some (congrArg (Value.int _) (by omega)) | (congr 2 <;> omega))⟩ ?_
  rintro gm t H' ⟨rfl, ⟨G, hp⟩, hlen, e0, e5, e9⟩
  revert e0 e5 e9; revert t; refine all_len (n := 193) ?_; iterate 193 intro uu'
  intro e0 e5 e9; cases e0; cases e5; cases e9
  refine sw_takeG hp ?_
  clear hp
  repeat' (first | (refine aw0m ?_) | (refine ap2 ?_ ?_ <;> first | exact True.intro | intro h) | (refine aw1m ?_) | (refine abx ?_; intro bb) | (refine abz ?_; intro bz) | (refine ahv ?_; intro v' hv') | (refine aac ?_; intro ac cc) | (refine aw2 ?_) | (refine ap4 ?_ ?_ <;> first | exact True.intro | intro h) | (with_reducible refine tr_two ?_ ?_))
  refine sw_loop (fun gm t H' => gm = 1 ∧ (∃ G, Takes [] H' G) ∧ (t.length = 193 ∧ t[0]? = some (.slice none 0 0) ∧ t[5]? = some (.slice (some ⟨bm, 0, none⟩) 0 0) ∧ t[11]? = some (.int .i64 0))) _ ⟨rfl, ⟨_, by (exact atks)⟩, rfl, (by first | rfl | exact congrArg some (congrArg (Value.int _) (by omega)) | (congr 2 <;> omega)), (by first | rfl | exact congrArg some (congrArg (Value.int _) (by omega)) | (congr 2 <;> omega)), (by first | rfl | exact congrArg some (congrArg (Value.int _) (by omega)) | (congr 2 <;> omega))⟩ ?_
  rintro gm t H' ⟨rfl, ⟨G, hp⟩, hlen, e0, e5, e11⟩
  revert e0 e5 e11; revert t; refine all_len (n := 193) ?_; iterate 193 intro uu'
  intro e0 e5 e11; cases e0; cases e5; cases e11
  refine sw_takeG hp ?_
  clear hp
  repeat' (first | (refine aw0m ?_) | (refine ap2 ?_ ?_ <;> first | exact True.intro | intro h) | (refine aw1m ?_) | (refine abx ?_; intro bb) | (refine abz ?_; intro bz) | (refine ahv ?_; intro v' hv') | (refine aac ?_; intro ac cc) | (refine aw2 ?_) | (refine ap4 ?_ ?_ <;> first | exact True.intro | intro h) | (with_reducible refine tr_two ?_ ?_))
  refine sw_loop (fun gm t H' => gm = 1 ∧ (∃ G, Takes [] H' G) ∧ (t.length = 193 ∧ t[0]? = some (.slice none 0 0) ∧ t[5]? = some (.slice (some ⟨bm, 0, none⟩) 0 0) ∧ t[14]? = some (.int .i64 0))) _ ⟨rfl, ⟨_, by (exact atks)⟩, rfl, (by first | rfl | exact congrArg some (congrArg (Value.int _) (by omega)) | (congr 2 <;> omega)), (by first | rfl | exact congrArg some (congrArg (Value.int _) (by omega)) | (congr 2 <;> omega)), (by first | rfl | exact congrArg some (congrArg (Value.int _) (by omega)) | (congr 2 <;> omega))⟩ ?_
  rintro gm t H' ⟨rfl, ⟨G, hp⟩, hlen, e0, e5, e14⟩
  revert e0 e5 e14; revert t; refine all_len (n := 193) ?_; iterate 193 intro uu'
  intro e0 e5 e14; cases e0; cases e5; cases e14
  refine sw_takeG hp ?_
  clear hp
  repeat' (first | (refine aw0m ?_) | (refine ap2 ?_ ?_ <;> first | exact True.intro | intro h) | (refine aw1m ?_) | (refine abx ?_; intro bb) | (refine abz ?_; intro bz) | (refine ahv ?_; intro v' hv') | (refine aac ?_; intro ac cc) | (refine aw2 ?_) | (refine ap4 ?_ ?_ <;> first | exact True.intro | intro h) | (with_reducible refine tr_two ?_ ?_))
  ((with_reducible apply fp_ret); exact res_1 rfl rfl)
  exact HR.out _ _ _ [] (by (exact atks)) ⟨rfl, rfl⟩
set_option maxRecDepth 10000 in
set_option maxHeartbeats 1000000 in
theorem flatPostings_nil (r : Hp) : Tri Tryz.prog r 83 [.slice none 0 0] [] fun w H => w = .bool true ∧ H = [] := by
  refine Tri.free2 fun R HR => ?_
  refine fn_of_sw Tryz.func83 rfl _ rfl ?_; simp only [Tryz.ntmps83, List.length_cons, List.length_nil, Nat.reduceAdd, Nat.reduceSub, List.replicate_succ, List.replicate_zero, List.nil_append, List.cons_append]
  repeat' (first | (refine aw0m ?_) | (refine ap2 ?_ ?_ <;> first | exact True.intro | intro h) | (refine aw1m ?_) | (refine abx ?_; intro bb) | (refine abz ?_; intro bz) | (refine ahv ?_; intro v' hv') | (refine aac ?_; intro ac cc) | (refine aw2 ?_) | (refine ap4 ?_ ?_ <;> first | exact True.intro | intro h) | (with_reducible refine tr_two ?_ ?_))
  refine sw_loop (fun gm t H' => gm = 1 ∧ (∃ G, Takes [] H' G) ∧ (t.length = 193 ∧ t[0]? = some (.slice none 0 0) ∧ t[3]? = some (.int .i64 0))) _ ⟨rfl, ⟨[], by (exact atks)⟩, rfl, (by first | rfl | exact congrArg some (congrArg (Value.int _) (by omega)) | (congr 2 <;> omega)), (by first | rfl | exact congrArg some (congrArg (Value.int _) (by omega)) | (congr 2 <;> omega))⟩ ?_
  rintro gm t H' ⟨rfl, ⟨G, hp⟩, hlen, e0, e3⟩
  revert e0 e3; revert t; refine all_len (n := 193) ?_; iterate 193 intro uu'
  intro e0 e3; cases e0; cases e3
  refine sw_takeG hp ?_
  clear hp
  repeat' (first | ((with_reducible apply kx_make0 (c := 0)); exact ty_el; exact ty_inf; rfl; rfl; (omega); (omega); intro bm; (refine apk ?_)) | (refine aw0 ?_) | (refine ap2 ?_ ?_ <;> first | exact True.intro | intro h) | (refine aw1 ?_) | (refine abx ?_; intro bb) | (refine abz ?_; intro bz) | (refine ahv ?_; intro v' hv') | (refine aac ?_; intro ac cc) | (refine aw2 ?_) | (refine ap4 ?_ ?_ <;> first | exact True.intro | intro h) | (with_reducible refine tr_two ?_ ?_))
  refine sw_loop (fun gm t H' => gm = 1 ∧ (∃ G, Takes [] H' G) ∧ (t.length = 193 ∧ t[0]? = some (.slice none 0 0) ∧ t[5]? = some (.slice (some ⟨bm, 0, none⟩) 0 0) ∧ t[6]? = some (.int .i64 0))) _ ⟨rfl, ⟨_, by (exact atks)⟩, rfl, (by first | rfl | exact congrArg some (congrArg (Value.int _) (by omega)) | (congr 2 <;> omega)), (by first | rfl | exact congrArg some (congrArg (Value.int _) (by omega)) | (congr 2 <;> omega)), (by first | rfl | exact congrArg some (congrArg (Value.int _) (by omega)) | (congr 2 <;> omega))⟩ ?_
  rintro gm t H' ⟨rfl, ⟨G, hp⟩, hlen, e0, e5, e6⟩
  revert e0 e5 e6; revert t; refine all_len (n := 193) ?_; iterate 193 intro uu'
  intro e0 e5 e6; cases e0; cases e5; cases e6
  refine sw_takeG hp ?_
  clear hp
  repeat' (first | (refine aw0m ?_) | (refine ap2 ?_ ?_ <;> first | exact True.intro | intro h) | (refine aw1m ?_) | (refine abx ?_; intro bb) | (refine abz ?_; intro bz) | (refine ahv ?_; intro v' hv') | (refine aac ?_; intro ac cc) | (refine aw2 ?_) | (refine ap4 ?_ ?_ <;> first | exact True.intro | intro h) | (with_reducible refine tr_two ?_ ?_))
  refine sw_loop (fun gm t H' => gm = 1 ∧ (∃ G, Takes [] H' G) ∧ (t.length = 193 ∧ t[0]? = some (.slice none 0 0) ∧ t[5]? = some (.slice (some ⟨bm, 0, none⟩) 0 0) ∧ t[9]? = some (.int .i64 0))) _ ⟨rfl, ⟨_, by (exact atks)⟩, rfl, (by first | rfl | exact congrArg some (congrArg (Value.int _) (by omega)) | (congr 2 <;> omega)), (by first | rfl | exact congrArg some (congrArg (Value.int _) (by omega)) | (congr 2 <;> omega)), (by first | rfl | exact congrArg some (congrArg (Value.int _) (by omega)) | (congr 2 <;> omega))⟩ ?_
  rintro gm t H' ⟨rfl, ⟨G, hp⟩, hlen, e0, e5, e9⟩
  revert e0 e5 e9; revert t; refine all_len (n := 193) ?_; iterate 193 intro uu'
  intro e0 e5 e9; cases e0; cases e5; cases e9
  refine sw_takeG hp ?_
  clear hp
  repeat' (first | (refine aw0m ?_) | (refine ap2 ?_ ?_ <;> first | exact True.intro | intro h) | (refine aw1m ?_) | (refine abx ?_; intro bb) | (refine abz ?_; intro bz) | (refine ahv ?_; intro v' hv') | (refine aac ?_; intro ac cc) | (refine aw2 ?_) | (refine ap4 ?_ ?_ <;> first | exact True.intro | intro h) | (with_reducible refine tr_two ?_ ?_))
  refine sw_loop (fun gm t H' => gm = 1 ∧ (∃ G, Takes [] H' G) ∧ (t.length = 193 ∧ t[0]? = some (.slice none 0 0) ∧ t[5]? = some (.slice (some ⟨bm, 0, none⟩) 0 0) ∧ t[11]? = some (.int .i64 0))) _ ⟨rfl, ⟨_, by (exact atks)⟩, rfl, (by first | rfl | exact congrArg some (congrArg (Value.int _) (by omega)) | (congr 2 <;> omega)), (by first | rfl | exact congrArg some (congrArg (Value.int _) (by omega)) | (congr 2 <;> omega)), (by first | rfl | exact congrArg some (congrArg (Value.int _) (by omega)) | (congr 2 <;> omega))⟩ ?_
  rintro gm t H' ⟨rfl, ⟨G, hp⟩, hlen, e0, e5, e11⟩
  revert e0 e5 e11; revert t; refine all_len (n := 193) ?_; iterate 193 intro uu'
  intro e0 e5 e11; cases e0; cases e5; cases e11
  refine sw_takeG hp ?_
  clear hp
  repeat' (first | (refine aw0m ?_) | (refine ap2 ?_ ?_ <;> first | exact True.intro | intro h) | (refine aw1m ?_) | (refine abx ?_; intro bb) | (refine abz ?_; intro bz) | (refine ahv ?_; intro v' hv') | (refine aac ?_; intro ac cc) | (refine aw2 ?_) | (refine ap4 ?_ ?_ <;> first | exact True.intro | intro h) | (with_reducible refine tr_two ?_ ?_))
  refine sw_loop (fun gm t H' => gm = 1 ∧ (∃ G, Takes [] H' G) ∧ (t.length = 193 ∧ t[0]? = some (.slice none 0 0) ∧ t[5]? = some (.slice (some ⟨bm, 0, none⟩) 0 0) ∧ t[14]? = some (.int .i64 0))) _ ⟨rfl, ⟨_, by (exact atks)⟩, rfl, (by first | rfl | exact congrArg some (congrArg (Value.int _) (by omega)) | (congr 2 <;> omega)), (by first | rfl | exact congrArg some (congrArg (Value.int _) (by omega)) | (congr 2 <;> omega)), (by first | rfl | exact congrArg some (congrArg (Value.int _) (by omega)) | (congr 2 <;> omega))⟩ ?_
  rintro gm t H' ⟨rfl, ⟨G, hp⟩, hlen, e0, e5, e14⟩
  revert e0 e5 e14; revert t; refine all_len (n := 193) ?_; iterate 193 intro uu'
  intro e0 e5 e14; cases e0; cases e5; cases e14
  refine sw_takeG hp ?_
  clear hp
  repeat' (first | (refine aw0m ?_) | (refine ap2 ?_ ?_ <;> first | exact True.intro | intro h) | (refine aw1m ?_) | (refine abx ?_; intro bb) | (refine abz ?_; intro bz) | (refine ahv ?_; intro v' hv') | (refine aac ?_; intro ac cc) | (refine aw2 ?_) | (refine ap4 ?_ ?_ <;> first | exact True.intro | intro h) | (with_reducible refine tr_two ?_ ?_))
  ((with_reducible apply fp_ret); exact res_1 rfl rfl)
  exact HR.out _ _ _ [] (by (exact atks)) ⟨rfl, rfl⟩
set_option maxRecDepth 10000 in
set_option maxHeartbeats 1000000 in
theorem flatShardRefs_nil (r : Hp) : Tri Tryz.prog r 84 [.slice none 0 0] [] fun w H => w = .bool true ∧ H = [] := by
  refine Tri.free2 fun R HR => ?_
  refine fn_of_sw Tryz.func84 rfl _ rfl ?_; simp only [Tryz.ntmps84, List.length_cons, List.length_nil, Nat.reduceAdd, Nat.reduceSub, List.replicate_succ, List.replicate_zero, List.nil_append, List.cons_append]
  repeat' (first | (refine aw0m ?_) | (refine ap2 ?_ ?_ <;> first | exact True.intro | intro h) | (refine aw1m ?_) | (refine abx ?_; intro bb) | (refine abz ?_; intro bz) | (refine ahv ?_; intro v' hv') | (refine aac ?_; intro ac cc) | (refine aw2 ?_) | (refine ap4 ?_ ?_ <;> first | exact True.intro | intro h) | (with_reducible refine tr_two ?_ ?_))
  refine sw_loop (fun gm t H' => gm = 1 ∧ (∃ G, Takes [] H' G) ∧ (t.length = 193 ∧ t[0]? = some (.slice none 0 0) ∧ t[3]? = some (.int .i64 0))) _ ⟨rfl, ⟨[], by (exact atks)⟩, rfl, (by first | rfl | exact congrArg some (congrArg (Value.int _) (by omega)) | (congr 2 <;> omega)), (by first | rfl | exact congrArg some (congrArg (Value.int _) (by omega)) | (congr 2 <;> omega))⟩ ?_
  rintro gm t H' ⟨rfl, ⟨G, hp⟩, hlen, e0, e3⟩
  revert e0 e3; revert t; refine all_len (n := 193) ?_; iterate 193 intro uu'
  intro e0 e3; cases e0; cases e3
  refine sw_takeG hp ?_
  clear hp
  repeat' (first | ((with_reducible apply kx_make0 (c := 0)); exact ty_el; exact ty_inf; rfl; rfl; (omega); (omega); intro bm; (refine apk ?_)) | (refine aw0 ?_) | (refine ap2 ?_ ?_ <;> first | exact True.intro | intro h) | (refine aw1 ?_) | (refine abx ?_; intro bb) | (refine abz ?_; intro bz) | (refine ahv ?_; intro v' hv') | (refine aac ?_; intro ac cc) | (refine aw2 ?_) | (refine ap4 ?_ ?_ <;> first | exact True.intro | intro h) | (with_reducible refine tr_two ?_ ?_))
  refine sw_loop (fun gm t H' => gm = 1 ∧ (∃ G, Takes [] H' G) ∧ (t.length = 193 ∧ t[0]? = some (.slice none 0 0) ∧ t[5]? = some (.slice (some ⟨bm, 0, none⟩) 0 0) ∧ t[6]? = some (.int .i64 0))) _ ⟨rfl, ⟨_, by (exact atks)⟩, rfl, (by first | rfl | exact congrArg some (congrArg (Value.int _) (by omega)) | (congr 2 <;> omega)), (by first | rfl | exact congrArg some (congrArg (Value.int _) (by omega)) | (congr 2 <;> omega)), (by first | rfl | exact congrArg some (congrArg (Value.int _) (by omega)) | (congr 2 <;> omega))⟩ ?_
  rintro gm t H' ⟨rfl, ⟨G, hp⟩, hlen, e0, e5, e6⟩
  revert e0 e5 e6; revert t; refine all_len (n := 193) ?_; iterate 193 intro uu'
  intro e0 e5 e6; cases e0; cases e5; cases e6
  refine sw_takeG hp ?_
  clear hp
  repeat' (first | (refine aw0m ?_) | (refine ap2 ?_ ?_ <;> first | exact True.intro | intro h) | (refine aw1m ?_) | (refine abx ?_; intro bb) | (refine abz ?_; intro bz) | (refine ahv ?_; intro v' hv') | (refine aac ?_; intro ac cc) | (refine aw2 ?_) | (refine ap4 ?_ ?_ <;> first | exact True.intro | intro h) | (with_reducible refine tr_two ?_ ?_))
  refine sw_loop (fun gm t H' => gm = 1 ∧ (∃ G, Takes [] H' G) ∧ (t.length = 193 ∧ t[0]? = some (.slice none 0 0) ∧ t[5]? = some (.slice (some ⟨bm, 0, none⟩) 0 0) ∧ t[9]? = some (.int .i64 0))) _ ⟨rfl, ⟨_, by (exact atks)⟩, rfl, (by first | rfl | exact congrArg some (congrArg (Value.int _) (by omega)) | (congr 2 <;> omega)), (by first | rfl | exact congrArg some (congrArg (Value.int _) (by omega)) | (congr 2 <;> omega)), (by first | rfl | exact congrArg some (congrArg (Value.int _) (by omega)) | (congr 2 <;> omega))⟩ ?_
  rintro gm t H' ⟨rfl, ⟨G, hp⟩, hlen, e0, e5, e9⟩
  revert e0 e5 e9; revert t; refine all_len (n := 193) ?_; iterate 193 intro uu'
  intro e0 e5 e9; cases e0; cases e5; cases e9
  refine sw_takeG hp ?_
  clear hp
  repeat' (first | (refine aw0m ?_) | (refine ap2 ?_ ?_ <;> first | exact True.intro | intro h) | (refine aw1m ?_) | (refine abx ?_; intro bb) | (refine abz ?_; intro bz) | (refine ahv ?_; intro v' hv') | (refine aac ?_; intro ac cc) | (refine aw2 ?_) | (refine ap4 ?_ ?_ <;> first | exact True.intro | intro h) | (with_reducible refine tr_two ?_ ?_))
  refine sw_loop (fun gm t H' => gm = 1 ∧ (∃ G, Takes [] H' G) ∧ (t.length = 193 ∧ t[0]? = some (.slice none 0 0) ∧ t[5]? = some (.slice (some ⟨bm, 0, none⟩) 0 0) ∧ t[11]? = some (.int .i64 0))) _ ⟨rfl, ⟨_, by (exact atks)⟩, rfl, (by first | rfl | exact congrArg some (congrArg (Value.int _) (by omega)) | (congr 2 <;> omega)), (by first | rfl | exact congrArg some (congrArg (Value.int _) (by omega)) | (congr 2 <;> omega)), (by first | rfl | exact congrArg some (congrArg (Value.int _) (by omega)) | (congr 2 <;> omega))⟩ ?_
  rintro gm t H' ⟨rfl, ⟨G, hp⟩, hlen, e0, e5, e11⟩
  revert e0 e5 e11; revert t; refine all_len (n := 193) ?_; iterate 193 intro uu'
  intro e0 e5 e11; cases e0; cases e5; cases e11
  refine sw_takeG hp ?_
  clear hp
  repeat' (first | (refine aw0m ?_) | (refine ap2 ?_ ?_ <;> first | exact True.intro | intro h) | (refine aw1m ?_) | (refine abx ?_; intro bb) | (refine abz ?_; intro bz) | (refine ahv ?_; intro v' hv') | (refine aac ?_; intro ac cc) | (refine aw2 ?_) | (refine ap4 ?_ ?_ <;> first | exact True.intro | intro h) | (with_reducible refine tr_two ?_ ?_))
  refine sw_loop (fun gm t H' => gm = 1 ∧ (∃ G, Takes [] H' G) ∧ (t.length = 193 ∧ t[0]? = some (.slice none 0 0) ∧ t[5]? = some (.slice (some ⟨bm, 0, none⟩) 0 0) ∧ t[14]? = some (.int .i64 0))) _ ⟨rfl, ⟨_, by (exact atks)⟩, rfl, (by first | rfl | exact congrArg some (congrArg (Value.int _) (by omega)) | (congr 2 <;> omega)), (by first | rfl | exact congrArg some (congrArg (Value.int _) (by omega)) | (congr 2 <;> omega)), (by first | rfl | exact congrArg some (congrArg (Value.int _) (by omega)) | (congr 2 <;> omega))⟩ ?_
  rintro gm t H' ⟨rfl, ⟨G, hp⟩, hlen, e0, e5, e14⟩
  revert e0 e5 e14; revert t; refine all_len (n := 193) ?_; iterate 193 intro uu'
  intro e0 e5 e14; cases e0; cases e5; cases e14
  refine sw_takeG hp ?_
  clear hp
  repeat' (first | (refine aw0m ?_) | (refine ap2 ?_ ?_ <;> first | exact True.intro | intro h) | (refine aw1m ?_) | (refine abx ?_; intro bb) | (refine abz ?_; intro bz) | (refine ahv ?_; intro v' hv') | (refine aac ?_; intro ac cc) | (refine aw2 ?_) | (refine ap4 ?_ ?_ <;> first | exact True.intro | intro h) | (with_reducible refine tr_two ?_ ?_))
  ((with_reducible apply fp_ret); exact res_1 rfl rfl)
  exact HR.out _ _ _ [] (by (exact atks)) ⟨rfl, rfl⟩
set_option maxRecDepth 10000 in
set_option maxHeartbeats 1000000 in
theorem flatManifests_nil (r : Hp) : Tri Tryz.prog r 85 [.slice none 0 0] [] fun w H => w = .bool true ∧ H = [] := by
  refine Tri.free2 fun R HR => ?_
  refine fn_of_sw Tryz.func85 rfl _ rfl ?_; simp only [Tryz.ntmps85, List.length_cons, List.length_nil, Nat.reduceAdd, Nat.reduceSub, List.replicate_succ, List.replicate_zero, List.nil_append, List.cons_append]
  repeat' (first | (refine aw0m ?_) | (refine ap2 ?_ ?_ <;> first | exact True.intro | intro h) | (refine aw1m ?_) | (refine abx ?_; intro bb) | (refine abz ?_; intro bz) | (refine ahv ?_; intro v' hv') | (refine aac ?_; intro ac cc) | (refine aw2 ?_) | (refine ap4 ?_ ?_ <;> first | exact True.intro | intro h) | (with_reducible refine tr_two ?_ ?_))
  refine sw_loop (fun gm t H' => gm = 1 ∧ (∃ G, Takes [] H' G) ∧ (t.length = 193 ∧ t[0]? = some (.slice none 0 0) ∧ t[3]? = some (.int .i64 0))) _ ⟨rfl, ⟨[], by (exact atks)⟩, rfl, (by first | rfl | exact congrArg some (congrArg (Value.int _) (by omega)) | (congr 2 <;> omega)), (by first | rfl | exact congrArg some (congrArg (Value.int _) (by omega)) | (congr 2 <;> omega))⟩ ?_
  rintro gm t H' ⟨rfl, ⟨G, hp⟩, hlen, e0, e3⟩
  revert e0 e3; revert t; refine all_len (n := 193) ?_; iterate 193 intro uu'
  intro e0 e3; cases e0; cases e3
  refine sw_takeG hp ?_
  clear hp
  repeat' (first | ((with_reducible apply kx_make0 (c := 0)); exact ty_el; exact ty_inf; rfl; rfl; (omega); (omega); intro bm; (refine apk ?_)) | (refine aw0 ?_) | (refine ap2 ?_ ?_ <;> first | exact True.intro | intro h) | (refine aw1 ?_) | (refine abx ?_; intro bb) | (refine abz ?_; intro bz) | (refine ahv ?_; intro v' hv') | (refine aac ?_; intro ac cc) | (refine aw2 ?_) | (refine ap4 ?_ ?_ <;> first | exact True.intro | intro h) | (with_reducible refine tr_two ?_ ?_))
  refine sw_loop (fun gm t H' => gm = 1 ∧ (∃ G, Takes [] H' G) ∧ (t.length = 193 ∧ t[0]? = some (.slice none 0 0) ∧ t[5]? = some (.slice (some ⟨bm, 0, none⟩) 0 0) ∧ t[6]? = some (.int .i64 0))) _ ⟨rfl, ⟨_, by (exact atks)⟩, rfl, (by first | rfl | exact congrArg some (congrArg (Value.int _) (by omega)) | (congr 2 <;> omega)), (by first | rfl | exact congrArg some (congrArg (Value.int _) (by omega)) | (congr 2 <;> omega)), (by first | rfl | exact congrArg some (congrArg (Value.int _) (by omega)) | (congr 2 <;> omega))⟩ ?_
  rintro gm t H' ⟨rfl, ⟨G, hp⟩, hlen, e0, e5, e6⟩
  revert e0 e5 e6; revert t; refine all_len (n := 193) ?_; iterate 193 intro uu'
  intro e0 e5 e6; cases e0; cases e5; cases e6
  refine sw_takeG hp ?_
  clear hp
  repeat' (first | (refine aw0m ?_) | (refine ap2 ?_ ?_ <;> first | exact True.intro | intro h) | (refine aw1m ?_) | (refine abx ?_; intro bb) | (refine abz ?_; intro bz) | (refine ahv ?_; intro v' hv') | (refine aac ?_; intro ac cc) | (refine aw2 ?_) | (refine ap4 ?_ ?_ <;> first | exact True.intro | intro h) | (with_reducible refine tr_two ?_ ?_))
  refine sw_loop (fun gm t H' => gm = 1 ∧ (∃ G, Takes [] H' G) ∧ (t.length = 193 ∧ t[0]? = some (.slice none 0 0) ∧ t[5]? = some (.slice (some ⟨bm, 0, none⟩) 0 0) ∧ t[9]? = some (.int .i64 0))) _ ⟨rfl, ⟨_, by (exact atks)⟩, rfl, (by first | rfl | exact congrArg some (congrArg (Value.int _) (by omega)) | (congr 2 <;> omega)), (by first | rfl | exact congrArg some (congrArg (Value.int _) (by omega)) | (congr 2 <;> omega)), (by first | rfl | exact congrArg some (congrArg (Value.int _) (by omega)) | (congr 2 <;> omega))⟩ ?_
  rintro gm t H' ⟨rfl, ⟨G, hp⟩, hlen, e0, e5, e9⟩
  revert e0 e5 e9; revert t; refine all_len (n := 193) ?_; iterate 193 intro uu'
  intro e0 e5 e9; cases e0; cases e5; cases e9
  refine sw_takeG hp ?_
  clear hp
  repeat' (first | (refine aw0m ?_) | (refine ap2 ?_ ?_ <;> first | exact True.intro | intro h) | (refine aw1m ?_) | (refine abx ?_; intro bb) | (refine abz ?_; intro bz) | (refine ahv ?_; intro v' hv') | (refine aac ?_; intro ac cc) | (refine aw2 ?_) | (refine ap4 ?_ ?_ <;> first | exact True.intro | intro h) | (with_reducible refine tr_two ?_ ?_))
  refine sw_loop (fun gm t H' => gm = 1 ∧ (∃ G, Takes [] H' G) ∧ (t.length = 193 ∧ t[0]? = some (.slice none 0 0) ∧ t[5]? = some (.slice (some ⟨bm, 0, none⟩) 0 0) ∧ t[11]? = some (.int .i64 0))) _ ⟨rfl, ⟨_, by (exact atks)⟩, rfl, (by first | rfl | exact congrArg some (congrArg (Value.int _) (by omega)) | (congr 2 <;> omega)), (by first | rfl | exact congrArg some (congrArg (Value.int _) (by omega)) | (congr 2 <;> omega)), (by first | rfl | exact congrArg some (congrArg (Value.int _) (by omega)) | (congr 2 <;> omega))⟩ ?_
  rintro gm t H' ⟨rfl, ⟨G, hp⟩, hlen, e0, e5, e11⟩
  revert e0 e5 e11; revert t; refine all_len (n := 193) ?_; iterate 193 intro uu'
  intro e0 e5 e11; cases e0; cases e5; cases e11
  refine sw_takeG hp ?_
  clear hp
  repeat' (first | (refine aw0m ?_) | (refine ap2 ?_ ?_ <;> first | exact True.intro | intro h) | (refine aw1m ?_) | (refine abx ?_; intro bb) | (refine abz ?_; intro bz) | (refine ahv ?_; intro v' hv') | (refine aac ?_; intro ac cc) | (refine aw2 ?_) | (refine ap4 ?_ ?_ <;> first | exact True.intro | intro h) | (with_reducible refine tr_two ?_ ?_))
  refine sw_loop (fun gm t H' => gm = 1 ∧ (∃ G, Takes [] H' G) ∧ (t.length = 193 ∧ t[0]? = some (.slice none 0 0) ∧ t[5]? = some (.slice (some ⟨bm, 0, none⟩) 0 0) ∧ t[14]? = some (.int .i64 0))) _ ⟨rfl, ⟨_, by (exact atks)⟩, rfl, (by first | rfl | exact congrArg some (congrArg (Value.int _) (by omega)) | (congr 2 <;> omega)), (by first | rfl | exact congrArg some (congrArg (Value.int _) (by omega)) | (congr 2 <;> omega)), (by first | rfl | exact congrArg some (congrArg (Value.int _) (by omega)) | (congr 2 <;> omega))⟩ ?_
  rintro gm t H' ⟨rfl, ⟨G, hp⟩, hlen, e0, e5, e14⟩
  revert e0 e5 e14; revert t; refine all_len (n := 193) ?_; iterate 193 intro uu'
  intro e0 e5 e14; cases e0; cases e5; cases e14
  refine sw_takeG hp ?_
  clear hp
  repeat' (first | (refine aw0m ?_) | (refine ap2 ?_ ?_ <;> first | exact True.intro | intro h) | (refine aw1m ?_) | (refine abx ?_; intro bb) | (refine abz ?_; intro bz) | (refine ahv ?_; intro v' hv') | (refine aac ?_; intro ac cc) | (refine aw2 ?_) | (refine ap4 ?_ ?_ <;> first | exact True.intro | intro h) | (with_reducible refine tr_two ?_ ?_))
  ((with_reducible apply fp_ret); exact res_1 rfl rfl)
  exact HR.out _ _ _ [] (by (exact atks)) ⟨rfl, rfl⟩
set_option maxRecDepth 10000 in
set_option maxHeartbeats 1000000 in
theorem flatAsks_nil (r : Hp) : Tri Tryz.prog r 86 [.slice none 0 0] [] fun w H => w = .bool true ∧ H = [] := by
  refine Tri.free2 fun R HR => ?_
  refine fn_of_sw Tryz.func86 rfl _ rfl ?_; simp only [Tryz.ntmps86, List.length_cons, List.length_nil, Nat.reduceAdd, Nat.reduceSub, List.replicate_succ, List.replicate_zero, List.nil_append, List.cons_append]
  repeat' (first | (refine aw0m ?_) | (refine ap2 ?_ ?_ <;> first | exact True.intro | intro h) | (refine aw1m ?_) | (refine abx ?_; intro bb) | (refine abz ?_; intro bz) | (refine ahv ?_; intro v' hv') | (refine aac ?_; intro ac cc) | (refine aw2 ?_) | (refine ap4 ?_ ?_ <;> first | exact True.intro | intro h) | (with_reducible refine tr_two ?_ ?_))
  refine sw_loop (fun gm t H' => gm = 1 ∧ (∃ G, Takes [] H' G) ∧ (t.length = 193 ∧ t[0]? = some (.slice none 0 0) ∧ t[3]? = some (.int .i64 0))) _ ⟨rfl, ⟨[], by (exact atks)⟩, rfl, (by first | rfl | exact congrArg some (congrArg (Value.int _) (by omega)) | (congr 2 <;> omega)), (by first | rfl | exact congrArg some (congrArg (Value.int _) (by omega)) | (congr 2 <;> omega))⟩ ?_
  rintro gm t H' ⟨rfl, ⟨G, hp⟩, hlen, e0, e3⟩
  revert e0 e3; revert t; refine all_len (n := 193) ?_; iterate 193 intro uu'
  intro e0 e3; cases e0; cases e3
  refine sw_takeG hp ?_
  clear hp
  repeat' (first | ((with_reducible apply kx_make0 (c := 0)); exact ty_el; exact ty_inf; rfl; rfl; (omega); (omega); intro bm; (refine apk ?_)) | (refine aw0 ?_) | (refine ap2 ?_ ?_ <;> first | exact True.intro | intro h) | (refine aw1 ?_) | (refine abx ?_; intro bb) | (refine abz ?_; intro bz) | (refine ahv ?_; intro v' hv') | (refine aac ?_; intro ac cc) | (refine aw2 ?_) | (refine ap4 ?_ ?_ <;> first | exact True.intro | intro h) | (with_reducible refine tr_two ?_ ?_))
  refine sw_loop (fun gm t H' => gm = 1 ∧ (∃ G, Takes [] H' G) ∧ (t.length = 193 ∧ t[0]? = some (.slice none 0 0) ∧ t[5]? = some (.slice (some ⟨bm, 0, none⟩) 0 0) ∧ t[6]? = some (.int .i64 0))) _ ⟨rfl, ⟨_, by (exact atks)⟩, rfl, (by first | rfl | exact congrArg some (congrArg (Value.int _) (by omega)) | (congr 2 <;> omega)), (by first | rfl | exact congrArg some (congrArg (Value.int _) (by omega)) | (congr 2 <;> omega)), (by first | rfl | exact congrArg some (congrArg (Value.int _) (by omega)) | (congr 2 <;> omega))⟩ ?_
  rintro gm t H' ⟨rfl, ⟨G, hp⟩, hlen, e0, e5, e6⟩
  revert e0 e5 e6; revert t; refine all_len (n := 193) ?_; iterate 193 intro uu'
  intro e0 e5 e6; cases e0; cases e5; cases e6
  refine sw_takeG hp ?_
  clear hp
  repeat' (first | (refine aw0m ?_) | (refine ap2 ?_ ?_ <;> first | exact True.intro | intro h) | (refine aw1m ?_) | (refine abx ?_; intro bb) | (refine abz ?_; intro bz) | (refine ahv ?_; intro v' hv') | (refine aac ?_; intro ac cc) | (refine aw2 ?_) | (refine ap4 ?_ ?_ <;> first | exact True.intro | intro h) | (with_reducible refine tr_two ?_ ?_))
  refine sw_loop (fun gm t H' => gm = 1 ∧ (∃ G, Takes [] H' G) ∧ (t.length = 193 ∧ t[0]? = some (.slice none 0 0) ∧ t[5]? = some (.slice (some ⟨bm, 0, none⟩) 0 0) ∧ t[9]? = some (.int .i64 0))) _ ⟨rfl, ⟨_, by (exact atks)⟩, rfl, (by first | rfl | exact congrArg some (congrArg (Value.int _) (by omega)) | (congr 2 <;> omega)), (by first | rfl | exact congrArg some (congrArg (Value.int _) (by omega)) | (congr 2 <;> omega)), (by first | rfl | exact congrArg some (congrArg (Value.int _) (by omega)) | (congr 2 <;> omega))⟩ ?_
  rintro gm t H' ⟨rfl, ⟨G, hp⟩, hlen, e0, e5, e9⟩
  revert e0 e5 e9; revert t; refine all_len (n := 193) ?_; iterate 193 intro uu'
  intro e0 e5 e9; cases e0; cases e5; cases e9
  refine sw_takeG hp ?_
  clear hp
  repeat' (first | (refine aw0m ?_) | (refine ap2 ?_ ?_ <;> first | exact True.intro | intro h) | (refine aw1m ?_) | (refine abx ?_; intro bb) | (refine abz ?_; intro bz) | (refine ahv ?_; intro v' hv') | (refine aac ?_; intro ac cc) | (refine aw2 ?_) | (refine ap4 ?_ ?_ <;> first | exact True.intro | intro h) | (with_reducible refine tr_two ?_ ?_))
  refine sw_loop (fun gm t H' => gm = 1 ∧ (∃ G, Takes [] H' G) ∧ (t.length = 193 ∧ t[0]? = some (.slice none 0 0) ∧ t[5]? = some (.slice (some ⟨bm, 0, none⟩) 0 0) ∧ t[11]? = some (.int .i64 0))) _ ⟨rfl, ⟨_, by (exact atks)⟩, rfl, (by first | rfl | exact congrArg some (congrArg (Value.int _) (by omega)) | (congr 2 <;> omega)), (by first | rfl | exact congrArg some (congrArg (Value.int _) (by omega)) | (congr 2 <;> omega)), (by first | rfl | exact congrArg some (congrArg (Value.int _) (by omega)) | (congr 2 <;> omega))⟩ ?_
  rintro gm t H' ⟨rfl, ⟨G, hp⟩, hlen, e0, e5, e11⟩
  revert e0 e5 e11; revert t; refine all_len (n := 193) ?_; iterate 193 intro uu'
  intro e0 e5 e11; cases e0; cases e5; cases e11
  refine sw_takeG hp ?_
  clear hp
  repeat' (first | (refine aw0m ?_) | (refine ap2 ?_ ?_ <;> first | exact True.intro | intro h) | (refine aw1m ?_) | (refine abx ?_; intro bb) | (refine abz ?_; intro bz) | (refine ahv ?_; intro v' hv') | (refine aac ?_; intro ac cc) | (refine aw2 ?_) | (refine ap4 ?_ ?_ <;> first | exact True.intro | intro h) | (with_reducible refine tr_two ?_ ?_))
  refine sw_loop (fun gm t H' => gm = 1 ∧ (∃ G, Takes [] H' G) ∧ (t.length = 193 ∧ t[0]? = some (.slice none 0 0) ∧ t[5]? = some (.slice (some ⟨bm, 0, none⟩) 0 0) ∧ t[14]? = some (.int .i64 0))) _ ⟨rfl, ⟨_, by (exact atks)⟩, rfl, (by first | rfl | exact congrArg some (congrArg (Value.int _) (by omega)) | (congr 2 <;> omega)), (by first | rfl | exact congrArg some (congrArg (Value.int _) (by omega)) | (congr 2 <;> omega)), (by first | rfl | exact congrArg some (congrArg (Value.int _) (by omega)) | (congr 2 <;> omega))⟩ ?_
  rintro gm t H' ⟨rfl, ⟨G, hp⟩, hlen, e0, e5, e14⟩
  revert e0 e5 e14; revert t; refine all_len (n := 193) ?_; iterate 193 intro uu'
  intro e0 e5 e14; cases e0; cases e5; cases e14
  refine sw_takeG hp ?_
  clear hp
  repeat' (first | (refine aw0m ?_) | (refine ap2 ?_ ?_ <;> first | exact True.intro | intro h) | (refine aw1m ?_) | (refine abx ?_; intro bb) | (refine abz ?_; intro bz) | (refine ahv ?_; intro v' hv') | (refine aac ?_; intro ac cc) | (refine aw2 ?_) | (refine ap4 ?_ ?_ <;> first | exact True.intro | intro h) | (with_reducible refine tr_two ?_ ?_))
  ((with_reducible apply fp_ret); exact res_1 rfl rfl)
  exact HR.out _ _ _ [] (by (exact atks)) ⟨rfl, rfl⟩
set_option maxRecDepth 10000 in
set_option maxHeartbeats 1000000 in
theorem flatHits_nil (r : Hp) : Tri Tryz.prog r 87 [.slice none 0 0] [] fun w H => w = .bool true ∧ H = [] := by
  refine Tri.free2 fun R HR => ?_
  refine fn_of_sw Tryz.func87 rfl _ rfl ?_; simp only [Tryz.ntmps87, List.length_cons, List.length_nil, Nat.reduceAdd, Nat.reduceSub, List.replicate_succ, List.replicate_zero, List.nil_append, List.cons_append]
  repeat' (first | (refine aw0m ?_) | (refine ap2 ?_ ?_ <;> first | exact True.intro | intro h) | (refine aw1m ?_) | (refine abx ?_; intro bb) | (refine abz ?_; intro bz) | (refine ahv ?_; intro v' hv') | (refine aac ?_; intro ac cc) | (refine aw2 ?_) | (refine ap4 ?_ ?_ <;> first | exact True.intro | intro h) | (with_reducible refine tr_two ?_ ?_))
  refine sw_loop (fun gm t H' => gm = 1 ∧ (∃ G, Takes [] H' G) ∧ (t.length = 193 ∧ t[0]? = some (.slice none 0 0) ∧ t[3]? = some (.int .i64 0))) _ ⟨rfl, ⟨[], by (exact atks)⟩, rfl, (by first | rfl | exact congrArg some (congrArg (Value.int _) (by omega)) | (congr 2 <;> omega)), (by first | rfl | exact congrArg some (congrArg (Value.int _) (by omega)) | (congr 2 <;> omega))⟩ ?_
  rintro gm t H' ⟨rfl, ⟨G, hp⟩, hlen, e0, e3⟩
  revert e0 e3; revert t; refine all_len (n := 193) ?_; iterate 193 intro uu'
  intro e0 e3; cases e0; cases e3
  refine sw_takeG hp ?_
  clear hp
  repeat' (first | ((with_reducible apply kx_make0 (c := 0)); exact ty_el; exact ty_inf; rfl; rfl; (omega); (omega); intro bm; (refine apk ?_)) | (refine aw0 ?_) | (refine ap2 ?_ ?_ <;> first | exact True.intro | intro h) | (refine aw1 ?_) | (refine abx ?_; intro bb) | (refine abz ?_; intro bz) | (refine ahv ?_; intro v' hv') | (refine aac ?_; intro ac cc) | (refine aw2 ?_) | (refine ap4 ?_ ?_ <;> first | exact True.intro | intro h) | (with_reducible refine tr_two ?_ ?_))
  refine sw_loop (fun gm t H' => gm = 1 ∧ (∃ G, Takes [] H' G) ∧ (t.length = 193 ∧ t[0]? = some (.slice none 0 0) ∧ t[5]? = some (.slice (some ⟨bm, 0, none⟩) 0 0) ∧ t[6]? = some (.int .i64 0))) _ ⟨rfl, ⟨_, by (exact atks)⟩, rfl, (by first | rfl | exact congrArg some (congrArg (Value.int _) (by omega)) | (congr 2 <;> omega)), (by first | rfl | exact congrArg some (congrArg (Value.int _) (by omega)) | (congr 2 <;> omega)), (by first | rfl | exact congrArg some (congrArg (Value.int _) (by omega)) | (congr 2 <;> omega))⟩ ?_
  rintro gm t H' ⟨rfl, ⟨G, hp⟩, hlen, e0, e5, e6⟩
  revert e0 e5 e6; revert t; refine all_len (n := 193) ?_; iterate 193 intro uu'
  intro e0 e5 e6; cases e0; cases e5; cases e6
  refine sw_takeG hp ?_
  clear hp
  repeat' (first | (refine aw0m ?_) | (refine ap2 ?_ ?_ <;> first | exact True.intro | intro h) | (refine aw1m ?_) | (refine abx ?_; intro bb) | (refine abz ?_; intro bz) | (refine ahv ?_; intro v' hv') | (refine aac ?_; intro ac cc) | (refine aw2 ?_) | (refine ap4 ?_ ?_ <;> first | exact True.intro | intro h) | (with_reducible refine tr_two ?_ ?_))
  refine sw_loop (fun gm t H' => gm = 1 ∧ (∃ G, Takes [] H' G) ∧ (t.length = 193 ∧ t[0]? = some (.slice none 0 0) ∧ t[5]? = some (.slice (some ⟨bm, 0, none⟩) 0 0) ∧ t[9]? = some (.int .i64 0))) _ ⟨rfl, ⟨_, by (exact atks)⟩, rfl, (by first | rfl | exact congrArg some (congrArg (Value.int _) (by omega)) | (congr 2 <;> omega)), (by first | rfl | exact congrArg some (congrArg (Value.int _) (by omega)) | (congr 2 <;> omega)), (by first | rfl | exact congrArg some (congrArg (Value.int _) (by omega)) | (congr 2 <;> omega))⟩ ?_
  rintro gm t H' ⟨rfl, ⟨G, hp⟩, hlen, e0, e5, e9⟩
  revert e0 e5 e9; revert t; refine all_len (n := 193) ?_; iterate 193 intro uu'
  intro e0 e5 e9; cases e0; cases e5; cases e9
  refine sw_takeG hp ?_
  clear hp
  repeat' (first | (refine aw0m ?_) | (refine ap2 ?_ ?_ <;> first | exact True.intro | intro h) | (refine aw1m ?_) | (refine abx ?_; intro bb) | (refine abz ?_; intro bz) | (refine ahv ?_; intro v' hv') | (refine aac ?_; intro ac cc) | (refine aw2 ?_) | (refine ap4 ?_ ?_ <;> first | exact True.intro | intro h) | (with_reducible refine tr_two ?_ ?_))
  refine sw_loop (fun gm t H' => gm = 1 ∧ (∃ G, Takes [] H' G) ∧ (t.length = 193 ∧ t[0]? = some (.slice none 0 0) ∧ t[5]? = some (.slice (some ⟨bm, 0, none⟩) 0 0) ∧ t[11]? = some (.int .i64 0))) _ ⟨rfl, ⟨_, by (exact atks)⟩, rfl, (by first | rfl | exact congrArg some (congrArg (Value.int _) (by omega)) | (congr 2 <;> omega)), (by first | rfl | exact congrArg some (congrArg (Value.int _) (by omega)) | (congr 2 <;> omega)), (by first | rfl | exact congrArg some (congrArg (Value.int _) (by omega)) | (congr 2 <;> omega))⟩ ?_
  rintro gm t H' ⟨rfl, ⟨G, hp⟩, hlen, e0, e5, e11⟩
  revert e0 e5 e11; revert t; refine all_len (n := 193) ?_; iterate 193 intro uu'
  intro e0 e5 e11; cases e0; cases e5; cases e11
  refine sw_takeG hp ?_
  clear hp
  repeat' (first | (refine aw0m ?_) | (refine ap2 ?_ ?_ <;> first | exact True.intro | intro h) | (refine aw1m ?_) | (refine abx ?_; intro bb) | (refine abz ?_; intro bz) | (refine ahv ?_; intro v' hv') | (refine aac ?_; intro ac cc) | (refine aw2 ?_) | (refine ap4 ?_ ?_ <;> first | exact True.intro | intro h) | (with_reducible refine tr_two ?_ ?_))
  refine sw_loop (fun gm t H' => gm = 1 ∧ (∃ G, Takes [] H' G) ∧ (t.length = 193 ∧ t[0]? = some (.slice none 0 0) ∧ t[5]? = some (.slice (some ⟨bm, 0, none⟩) 0 0) ∧ t[14]? = some (.int .i64 0))) _ ⟨rfl, ⟨_, by (exact atks)⟩, rfl, (by first | rfl | exact congrArg some (congrArg (Value.int _) (by omega)) | (congr 2 <;> omega)), (by first | rfl | exact congrArg some (congrArg (Value.int _) (by omega)) | (congr 2 <;> omega)), (by first | rfl | exact congrArg some (congrArg (Value.int _) (by omega)) | (congr 2 <;> omega))⟩ ?_
  rintro gm t H' ⟨rfl, ⟨G, hp⟩, hlen, e0, e5, e14⟩
  revert e0 e5 e14; revert t; refine all_len (n := 193) ?_; iterate 193 intro uu'
  intro e0 e5 e14; cases e0; cases e5; cases e14
  refine sw_takeG hp ?_
  clear hp
  repeat' (first | (refine aw0m ?_) | (refine ap2 ?_ ?_ <;> first | exact True.intro | intro h) | (refine aw1m ?_) | (refine abx ?_; intro bb) | (refine abz ?_; intro bz) | (refine ahv ?_; intro v' hv') | (refine aac ?_; intro ac cc) | (refine aw2 ?_) | (refine ap4 ?_ ?_ <;> first | exact True.intro | intro h) | (with_reducible refine tr_two ?_ ?_))
  ((with_reducible apply fp_ret); exact res_1 rfl rfl)
  exact HR.out _ _ _ [] (by (exact atks)) ⟨rfl, rfl⟩
set_option maxRecDepth 10000 in
set_option maxHeartbeats 1000000 in
theorem flatAnswers_nil (r : Hp) : Tri Tryz.prog r 88 [.slice none 0 0] [] fun w H => w = .bool true ∧ H = [] := by
  refine Tri.free2 fun R HR => ?_
  refine fn_of_sw Tryz.func88 rfl _ rfl ?_; simp only [Tryz.ntmps88, List.length_cons, List.length_nil, Nat.reduceAdd, Nat.reduceSub, List.replicate_succ, List.replicate_zero, List.nil_append, List.cons_append]
  repeat' (first | (refine aw0m ?_) | (refine ap2 ?_ ?_ <;> first | exact True.intro | intro h) | (refine aw1m ?_) | (refine abx ?_; intro bb) | (refine abz ?_; intro bz) | (refine ahv ?_; intro v' hv') | (refine aac ?_; intro ac cc) | (refine aw2 ?_) | (refine ap4 ?_ ?_ <;> first | exact True.intro | intro h) | (with_reducible refine tr_two ?_ ?_))
  refine sw_loop (fun gm t H' => gm = 1 ∧ (∃ G, Takes [] H' G) ∧ (t.length = 193 ∧ t[0]? = some (.slice none 0 0) ∧ t[3]? = some (.int .i64 0))) _ ⟨rfl, ⟨[], by (exact atks)⟩, rfl, (by first | rfl | exact congrArg some (congrArg (Value.int _) (by omega)) | (congr 2 <;> omega)), (by first | rfl | exact congrArg some (congrArg (Value.int _) (by omega)) | (congr 2 <;> omega))⟩ ?_
  rintro gm t H' ⟨rfl, ⟨G, hp⟩, hlen, e0, e3⟩
  revert e0 e3; revert t; refine all_len (n := 193) ?_; iterate 193 intro uu'
  intro e0 e3; cases e0; cases e3
  refine sw_takeG hp ?_
  clear hp
  repeat' (first | ((with_reducible apply kx_make0 (c := 0)); exact ty_el; exact ty_inf; rfl; rfl; (omega); (omega); intro bm; (refine apk ?_)) | (refine aw0 ?_) | (refine ap2 ?_ ?_ <;> first | exact True.intro | intro h) | (refine aw1 ?_) | (refine abx ?_; intro bb) | (refine abz ?_; intro bz) | (refine ahv ?_; intro v' hv') | (refine aac ?_; intro ac cc) | (refine aw2 ?_) | (refine ap4 ?_ ?_ <;> first | exact True.intro | intro h) | (with_reducible refine tr_two ?_ ?_))
  refine sw_loop (fun gm t H' => gm = 1 ∧ (∃ G, Takes [] H' G) ∧ (t.length = 193 ∧ t[0]? = some (.slice none 0 0) ∧ t[5]? = some (.slice (some ⟨bm, 0, none⟩) 0 0) ∧ t[6]? = some (.int .i64 0))) _ ⟨rfl, ⟨_, by (exact atks)⟩, rfl, (by first | rfl | exact congrArg some (congrArg (Value.int _) (by omega)) | (congr 2 <;> omega)), (by first | rfl | exact congrArg some (congrArg (Value.int _) (by omega)) | (congr 2 <;> omega)), (by first | rfl | exact congrArg some (congrArg (Value.int _) (by omega)) | (congr 2 <;> omega))⟩ ?_
  rintro gm t H' ⟨rfl, ⟨G, hp⟩, hlen, e0, e5, e6⟩
  revert e0 e5 e6; revert t; refine all_len (n := 193) ?_; iterate 193 intro uu'
  intro e0 e5 e6; cases e0; cases e5; cases e6
  refine sw_takeG hp ?_
  clear hp
  repeat' (first | (refine aw0m ?_) | (refine ap2 ?_ ?_ <;> first | exact True.intro | intro h) | (refine aw1m ?_) | (refine abx ?_; intro bb) | (refine abz ?_; intro bz) | (refine ahv ?_; intro v' hv') | (refine aac ?_; intro ac cc) | (refine aw2 ?_) | (refine ap4 ?_ ?_ <;> first | exact True.intro | intro h) | (with_reducible refine tr_two ?_ ?_))
  refine sw_loop (fun gm t H' => gm = 1 ∧ (∃ G, Takes [] H' G) ∧ (t.length = 193 ∧ t[0]? = some (.slice none 0 0) ∧ t[5]? = some (.slice (some ⟨bm, 0, none⟩) 0 0) ∧ t[9]? = some (.int .i64 0))) _ ⟨rfl, ⟨_, by (exact atks)⟩, rfl, (by first | rfl | exact congrArg some (congrArg (Value.int _) (by omega)) | (congr 2 <;> omega)), (by first | rfl | exact congrArg some (congrArg (Value.int _) (by omega)) | (congr 2 <;> omega)), (by first | rfl | exact congrArg some (congrArg (Value.int _) (by omega)) | (congr 2 <;> omega))⟩ ?_
  rintro gm t H' ⟨rfl, ⟨G, hp⟩, hlen, e0, e5, e9⟩
  revert e0 e5 e9; revert t; refine all_len (n := 193) ?_; iterate 193 intro uu'
  intro e0 e5 e9; cases e0; cases e5; cases e9
  refine sw_takeG hp ?_
  clear hp
  repeat' (first | (refine aw0m ?_) | (refine ap2 ?_ ?_ <;> first | exact True.intro | intro h) | (refine aw1m ?_) | (refine abx ?_; intro bb) | (refine abz ?_; intro bz) | (refine ahv ?_; intro v' hv') | (refine aac ?_; intro ac cc) | (refine aw2 ?_) | (refine ap4 ?_ ?_ <;> first | exact True.intro | intro h) | (with_reducible refine tr_two ?_ ?_))
  refine sw_loop (fun gm t H' => gm = 1 ∧ (∃ G, Takes [] H' G) ∧ (t.length = 193 ∧ t[0]? = some (.slice none 0 0) ∧ t[5]? = some (.slice (some ⟨bm, 0, none⟩) 0 0) ∧ t[11]? = some (.int .i64 0))) _ ⟨rfl, ⟨_, by (exact atks)⟩, rfl, (by first | rfl | exact congrArg some (congrArg (Value.int _) (by omega)) | (congr 2 <;> omega)), (by first | rfl | exact congrArg some (congrArg (Value.int _) (by omega)) | (congr 2 <;> omega)), (by first | rfl | exact congrArg some (congrArg (Value.int _) (by omega)) | (congr 2 <;> omega))⟩ ?_
  rintro gm t H' ⟨rfl, ⟨G, hp⟩, hlen, e0, e5, e11⟩
  revert e0 e5 e11; revert t; refine all_len (n := 193) ?_; iterate 193 intro uu'
  intro e0 e5 e11; cases e0; cases e5; cases e11
  refine sw_takeG hp ?_
  clear hp
  repeat' (first | (refine aw0m ?_) | (refine ap2 ?_ ?_ <;> first | exact True.intro | intro h) | (refine aw1m ?_) | (refine abx ?_; intro bb) | (refine abz ?_; intro bz) | (refine ahv ?_; intro v' hv') | (refine aac ?_; intro ac cc) | (refine aw2 ?_) | (refine ap4 ?_ ?_ <;> first | exact True.intro | intro h) | (with_reducible refine tr_two ?_ ?_))
  refine sw_loop (fun gm t H' => gm = 1 ∧ (∃ G, Takes [] H' G) ∧ (t.length = 193 ∧ t[0]? = some (.slice none 0 0) ∧ t[5]? = some (.slice (some ⟨bm, 0, none⟩) 0 0) ∧ t[14]? = some (.int .i64 0))) _ ⟨rfl, ⟨_, by (exact atks)⟩, rfl, (by first | rfl | exact congrArg some (congrArg (Value.int _) (by omega)) | (congr 2 <;> omega)), (by first | rfl | exact congrArg some (congrArg (Value.int _) (by omega)) | (congr 2 <;> omega)), (by first | rfl | exact congrArg some (congrArg (Value.int _) (by omega)) | (congr 2 <;> omega))⟩ ?_
  rintro gm t H' ⟨rfl, ⟨G, hp⟩, hlen, e0, e5, e14⟩
  revert e0 e5 e14; revert t; refine all_len (n := 193) ?_; iterate 193 intro uu'
  intro e0 e5 e14; cases e0; cases e5; cases e14
  refine sw_takeG hp ?_
  clear hp
  repeat' (first | (refine aw0m ?_) | (refine ap2 ?_ ?_ <;> first | exact True.intro | intro h) | (refine aw1m ?_) | (refine abx ?_; intro bb) | (refine abz ?_; intro bz) | (refine ahv ?_; intro v' hv') | (refine aac ?_; intro ac cc) | (refine aw2 ?_) | (refine ap4 ?_ ?_ <;> first | exact True.intro | intro h) | (with_reducible refine tr_two ?_ ?_))
  ((with_reducible apply fp_ret); exact res_1 rfl rfl)
  exact HR.out _ _ _ [] (by (exact atks)) ⟨rfl, rfl⟩
set_option maxRecDepth 10000 in
set_option maxHeartbeats 1000000 in
theorem flatParts_nil (r : Hp) : Tri Tryz.prog r 89 [.slice none 0 0] [] fun w H => w = .bool true ∧ H = [] := by
  refine Tri.free2 fun R HR => ?_
  refine fn_of_sw Tryz.func89 rfl _ rfl ?_; simp only [Tryz.ntmps89, List.length_cons, List.length_nil, Nat.reduceAdd, Nat.reduceSub, List.replicate_succ, List.replicate_zero, List.nil_append, List.cons_append]
  repeat' (first | (refine aw0m ?_) | (refine ap2 ?_ ?_ <;> first | exact True.intro | intro h) | (refine aw1m ?_) | (refine abx ?_; intro bb) | (refine abz ?_; intro bz) | (refine ahv ?_; intro v' hv') | (refine aac ?_; intro ac cc) | (refine aw2 ?_) | (refine ap4 ?_ ?_ <;> first | exact True.intro | intro h) | (with_reducible refine tr_two ?_ ?_))
  refine sw_loop (fun gm t H' => gm = 1 ∧ (∃ G, Takes [] H' G) ∧ (t.length = 193 ∧ t[0]? = some (.slice none 0 0) ∧ t[3]? = some (.int .i64 0))) _ ⟨rfl, ⟨[], by (exact atks)⟩, rfl, (by first | rfl | exact congrArg some (congrArg (Value.int _) (by omega)) | (congr 2 <;> omega)), (by first | rfl | exact congrArg some (congrArg (Value.int _) (by omega)) | (congr 2 <;> omega))⟩ ?_
  rintro gm t H' ⟨rfl, ⟨G, hp⟩, hlen, e0, e3⟩
  revert e0 e3; revert t; refine all_len (n := 193) ?_; iterate 193 intro uu'
  intro e0 e3; cases e0; cases e3
  refine sw_takeG hp ?_
  clear hp
  repeat' (first | ((with_reducible apply kx_make0 (c := 0)); exact ty_el; exact ty_inf; rfl; rfl; (omega); (omega); intro bm; (refine apk ?_)) | (refine aw0 ?_) | (refine ap2 ?_ ?_ <;> first | exact True.intro | intro h) | (refine aw1 ?_) | (refine abx ?_; intro bb) | (refine abz ?_; intro bz) | (refine ahv ?_; intro v' hv') | (refine aac ?_; intro ac cc) | (refine aw2 ?_) | (refine ap4 ?_ ?_ <;> first | exact True.intro | intro h) | (with_reducible refine tr_two ?_ ?_))
  refine sw_loop (fun gm t H' => gm = 1 ∧ (∃ G, Takes [] H' G) ∧ (t.length = 193 ∧ t[0]? = some (.slice none 0 0) ∧ t[5]? = some (.slice (some ⟨bm, 0, none⟩) 0 0) ∧ t[6]? = some (.int .i64 0))) _ ⟨rfl, ⟨_, by (exact atks)⟩, rfl, (by first | rfl | exact congrArg some (congrArg (Value.int _) (by omega)) | (congr 2 <;> omega)), (by first | rfl | exact congrArg some (congrArg (Value.int _) (by omega)) | (congr 2 <;> omega)), (by first | rfl | exact congrArg some (congrArg (Value.int _) (by omega)) | (congr 2 <;> omega))⟩ ?_
  rintro gm t H' ⟨rfl, ⟨G, hp⟩, hlen, e0, e5, e6⟩
  revert e0 e5 e6; revert t; refine all_len (n := 193) ?_; iterate 193 intro uu'
  intro e0 e5 e6; cases e0; cases e5; cases e6
  refine sw_takeG hp ?_
  clear hp
  repeat' (first | (refine aw0m ?_) | (refine ap2 ?_ ?_ <;> first | exact True.intro | intro h) | (refine aw1m ?_) | (refine abx ?_; intro bb) | (refine abz ?_; intro bz) | (refine ahv ?_; intro v' hv') | (refine aac ?_; intro ac cc) | (refine aw2 ?_) | (refine ap4 ?_ ?_ <;> first | exact True.intro | intro h) | (with_reducible refine tr_two ?_ ?_))
  refine sw_loop (fun gm t H' => gm = 1 ∧ (∃ G, Takes [] H' G) ∧ (t.length = 193 ∧ t[0]? = some (.slice none 0 0) ∧ t[5]? = some (.slice (some ⟨bm, 0, none⟩) 0 0) ∧ t[9]? = some (.int .i64 0))) _ ⟨rfl, ⟨_, by (exact atks)⟩, rfl, (by first | rfl | exact congrArg some (congrArg (Value.int _) (by omega)) | (congr 2 <;> omega)), (by first | rfl | exact congrArg some (congrArg (Value.int _) (by omega)) | (congr 2 <;> omega)), (by first | rfl | exact congrArg some (congrArg (Value.int _) (by omega)) | (congr 2 <;> omega))⟩ ?_
  rintro gm t H' ⟨rfl, ⟨G, hp⟩, hlen, e0, e5, e9⟩
  revert e0 e5 e9; revert t; refine all_len (n := 193) ?_; iterate 193 intro uu'
  intro e0 e5 e9; cases e0; cases e5; cases e9
  refine sw_takeG hp ?_
  clear hp
  repeat' (first | (refine aw0m ?_) | (refine ap2 ?_ ?_ <;> first | exact True.intro | intro h) | (refine aw1m ?_) | (refine abx ?_; intro bb) | (refine abz ?_; intro bz) | (refine ahv ?_; intro v' hv') | (refine aac ?_; intro ac cc) | (refine aw2 ?_) | (refine ap4 ?_ ?_ <;> first | exact True.intro | intro h) | (with_reducible refine tr_two ?_ ?_))
  refine sw_loop (fun gm t H' => gm = 1 ∧ (∃ G, Takes [] H' G) ∧ (t.length = 193 ∧ t[0]? = some (.slice none 0 0) ∧ t[5]? = some (.slice (some ⟨bm, 0, none⟩) 0 0) ∧ t[11]? = some (.int .i64 0))) _ ⟨rfl, ⟨_, by (exact atks)⟩, rfl, (by first | rfl | exact congrArg some (congrArg (Value.int _) (by omega)) | (congr 2 <;> omega)), (by first | rfl | exact congrArg some (congrArg (Value.int _) (by omega)) | (congr 2 <;> omega)), (by first | rfl | exact congrArg some (congrArg (Value.int _) (by omega)) | (congr 2 <;> omega))⟩ ?_
  rintro gm t H' ⟨rfl, ⟨G, hp⟩, hlen, e0, e5, e11⟩
  revert e0 e5 e11; revert t; refine all_len (n := 193) ?_; iterate 193 intro uu'
  intro e0 e5 e11; cases e0; cases e5; cases e11
  refine sw_takeG hp ?_
  clear hp
  repeat' (first | (refine aw0m ?_) | (refine ap2 ?_ ?_ <;> first | exact True.intro | intro h) | (refine aw1m ?_) | (refine abx ?_; intro bb) | (refine abz ?_; intro bz) | (refine ahv ?_; intro v' hv') | (refine aac ?_; intro ac cc) | (refine aw2 ?_) | (refine ap4 ?_ ?_ <;> first | exact True.intro | intro h) | (with_reducible refine tr_two ?_ ?_))
  refine sw_loop (fun gm t H' => gm = 1 ∧ (∃ G, Takes [] H' G) ∧ (t.length = 193 ∧ t[0]? = some (.slice none 0 0) ∧ t[5]? = some (.slice (some ⟨bm, 0, none⟩) 0 0) ∧ t[14]? = some (.int .i64 0))) _ ⟨rfl, ⟨_, by (exact atks)⟩, rfl, (by first | rfl | exact congrArg some (congrArg (Value.int _) (by omega)) | (congr 2 <;> omega)), (by first | rfl | exact congrArg some (congrArg (Value.int _) (by omega)) | (congr 2 <;> omega)), (by first | rfl | exact congrArg some (congrArg (Value.int _) (by omega)) | (congr 2 <;> omega))⟩ ?_
  rintro gm t H' ⟨rfl, ⟨G, hp⟩, hlen, e0, e5, e14⟩
  revert e0 e5 e14; revert t; refine all_len (n := 193) ?_; iterate 193 intro uu'
  intro e0 e5 e14; cases e0; cases e5; cases e14
  refine sw_takeG hp ?_
  clear hp
  repeat' (first | (refine aw0m ?_) | (refine ap2 ?_ ?_ <;> first | exact True.intro | intro h) | (refine aw1m ?_) | (refine abx ?_; intro bb) | (refine abz ?_; intro bz) | (refine ahv ?_; intro v' hv') | (refine aac ?_; intro ac cc) | (refine aw2 ?_) | (refine ap4 ?_ ?_ <;> first | exact True.intro | intro h) | (with_reducible refine tr_two ?_ ?_))
  ((with_reducible apply fp_ret); exact res_1 rfl rfl)
  exact HR.out _ _ _ [] (by (exact atks)) ⟨rfl, rfl⟩
set_option maxRecDepth 10000 in
set_option maxHeartbeats 1000000 in
theorem flatChanges_nil (r : Hp) : Tri Tryz.prog r 90 [.slice none 0 0] [] fun w H => w = .bool true ∧ H = [] := by
  refine Tri.free2 fun R HR => ?_
  refine fn_of_sw Tryz.func90 rfl _ rfl ?_; simp only [Tryz.ntmps90, List.length_cons, List.length_nil, Nat.reduceAdd, Nat.reduceSub, List.replicate_succ, List.replicate_zero, List.nil_append, List.cons_append]
  repeat' (first | (refine aw0m ?_) | (refine ap2 ?_ ?_ <;> first | exact True.intro | intro h) | (refine aw1m ?_) | (refine abx ?_; intro bb) | (refine abz ?_; intro bz) | (refine ahv ?_; intro v' hv') | (refine aac ?_; intro ac cc) | (refine aw2 ?_) | (refine ap4 ?_ ?_ <;> first | exact True.intro | intro h) | (with_reducible refine tr_two ?_ ?_))
  refine sw_loop (fun gm t H' => gm = 1 ∧ (∃ G, Takes [] H' G) ∧ (t.length = 193 ∧ t[0]? = some (.slice none 0 0) ∧ t[3]? = some (.int .i64 0))) _ ⟨rfl, ⟨[], by (exact atks)⟩, rfl, (by first | rfl | exact congrArg some (congrArg (Value.int _) (by omega)) | (congr 2 <;> omega)), (by first | rfl | exact congrArg some (congrArg (Value.int _) (by omega)) | (congr 2 <;> omega))⟩ ?_
  rintro gm t H' ⟨rfl, ⟨G, hp⟩, hlen, e0, e3⟩
  revert e0 e3; revert t; refine all_len (n := 193) ?_; iterate 193 intro uu'
  intro e0 e3; cases e0; cases e3
  refine sw_takeG hp ?_
  clear hp
  repeat' (first | ((with_reducible apply kx_make0 (c := 0)); exact ty_el; exact ty_inf; rfl; rfl; (omega); (omega); intro bm; (refine apk ?_)) | (refine aw0 ?_) | (refine ap2 ?_ ?_ <;> first | exact True.intro | intro h) | (refine aw1 ?_) | (refine abx ?_; intro bb) | (refine abz ?_; intro bz) | (refine ahv ?_; intro v' hv') | (refine aac ?_; intro ac cc) | (refine aw2 ?_) | (refine ap4 ?_ ?_ <;> first | exact True.intro | intro h) | (with_reducible refine tr_two ?_ ?_))
  refine sw_loop (fun gm t H' => gm = 1 ∧ (∃ G, Takes [] H' G) ∧ (t.length = 193 ∧ t[0]? = some (.slice none 0 0) ∧ t[5]? = some (.slice (some ⟨bm, 0, none⟩) 0 0) ∧ t[6]? = some (.int .i64 0))) _ ⟨rfl, ⟨_, by (exact atks)⟩, rfl, (by first | rfl | exact congrArg some (congrArg (Value.int _) (by omega)) | (congr 2 <;> omega)), (by first | rfl | exact congrArg some (congrArg (Value.int _) (by omega)) | (congr 2 <;> omega)), (by first | rfl | exact congrArg some (congrArg (Value.int _) (by omega)) | (congr 2 <;> omega))⟩ ?_
  rintro gm t H' ⟨rfl, ⟨G, hp⟩, hlen, e0, e5, e6⟩
  revert e0 e5 e6; revert t; refine all_len (n := 193) ?_; iterate 193 intro uu'
  intro e0 e5 e6; cases e0; cases e5; cases e6
  refine sw_takeG hp ?_
  clear hp
  repeat' (first | (refine aw0m ?_) | (refine ap2 ?_ ?_ <;> first | exact True.intro | intro h) | (refine aw1m ?_) | (refine abx ?_; intro bb) | (refine abz ?_; intro bz) | (refine ahv ?_; intro v' hv') | (refine aac ?_; intro ac cc) | (refine aw2 ?_) | (refine ap4 ?_ ?_ <;> first | exact True.intro | intro h) | (with_reducible refine tr_two ?_ ?_))
  refine sw_loop (fun gm t H' => gm = 1 ∧ (∃ G, Takes [] H' G) ∧ (t.length = 193 ∧ t[0]? = some (.slice none 0 0) ∧ t[5]? = some (.slice (some ⟨bm, 0, none⟩) 0 0) ∧ t[9]? = some (.int .i64 0))) _ ⟨rfl, ⟨_, by (exact atks)⟩, rfl, (by first | rfl | exact congrArg some (congrArg (Value.int _) (by omega)) | (congr 2 <;> omega)), (by first | rfl | exact congrArg some (congrArg (Value.int _) (by omega)) | (congr 2 <;> omega)), (by first | rfl | exact congrArg some (congrArg (Value.int _) (by omega)) | (congr 2 <;> omega))⟩ ?_
  rintro gm t H' ⟨rfl, ⟨G, hp⟩, hlen, e0, e5, e9⟩
  revert e0 e5 e9; revert t; refine all_len (n := 193) ?_; iterate 193 intro uu'
  intro e0 e5 e9; cases e0; cases e5; cases e9
  refine sw_takeG hp ?_
  clear hp
  repeat' (first | (refine aw0m ?_) | (refine ap2 ?_ ?_ <;> first | exact True.intro | intro h) | (refine aw1m ?_) | (refine abx ?_; intro bb) | (refine abz ?_; intro bz) | (refine ahv ?_; intro v' hv') | (refine aac ?_; intro ac cc) | (refine aw2 ?_) | (refine ap4 ?_ ?_ <;> first | exact True.intro | intro h) | (with_reducible refine tr_two ?_ ?_))
  refine sw_loop (fun gm t H' => gm = 1 ∧ (∃ G, Takes [] H' G) ∧ (t.length = 193 ∧ t[0]? = some (.slice none 0 0) ∧ t[5]? = some (.slice (some ⟨bm, 0, none⟩) 0 0) ∧ t[11]? = some (.int .i64 0))) _ ⟨rfl, ⟨_, by (exact atks)⟩, rfl, (by first | rfl | exact congrArg some (congrArg (Value.int _) (by omega)) | (congr 2 <;> omega)), (by first | rfl | exact congrArg some (congrArg (Value.int _) (by omega)) | (congr 2 <;> omega)), (by first | rfl | exact congrArg some (congrArg (Value.int _) (by omega)) | (congr 2 <;> omega))⟩ ?_
  rintro gm t H' ⟨rfl, ⟨G, hp⟩, hlen, e0, e5, e11⟩
  revert e0 e5 e11; revert t; refine all_len (n := 193) ?_; iterate 193 intro uu'
  intro e0 e5 e11; cases e0; cases e5; cases e11
  refine sw_takeG hp ?_
  clear hp
  repeat' (first | (refine aw0m ?_) | (refine ap2 ?_ ?_ <;> first | exact True.intro | intro h) | (refine aw1m ?_) | (refine abx ?_; intro bb) | (refine abz ?_; intro bz) | (refine ahv ?_; intro v' hv') | (refine aac ?_; intro ac cc) | (refine aw2 ?_) | (refine ap4 ?_ ?_ <;> first | exact True.intro | intro h) | (with_reducible refine tr_two ?_ ?_))
  refine sw_loop (fun gm t H' => gm = 1 ∧ (∃ G, Takes [] H' G) ∧ (t.length = 193 ∧ t[0]? = some (.slice none 0 0) ∧ t[5]? = some (.slice (some ⟨bm, 0, none⟩) 0 0) ∧ t[14]? = some (.int .i64 0))) _ ⟨rfl, ⟨_, by (exact atks)⟩, rfl, (by first | rfl | exact congrArg some (congrArg (Value.int _) (by omega)) | (congr 2 <;> omega)), (by first | rfl | exact congrArg some (congrArg (Value.int _) (by omega)) | (congr 2 <;> omega)), (by first | rfl | exact congrArg some (congrArg (Value.int _) (by omega)) | (congr 2 <;> omega))⟩ ?_
  rintro gm t H' ⟨rfl, ⟨G, hp⟩, hlen, e0, e5, e14⟩
  revert e0 e5 e14; revert t; refine all_len (n := 193) ?_; iterate 193 intro uu'
  intro e0 e5 e14; cases e0; cases e5; cases e14
  refine sw_takeG hp ?_
  clear hp
  repeat' (first | (refine aw0m ?_) | (refine ap2 ?_ ?_ <;> first | exact True.intro | intro h) | (refine aw1m ?_) | (refine abx ?_; intro bb) | (refine abz ?_; intro bz) | (refine ahv ?_; intro v' hv') | (refine aac ?_; intro ac cc) | (refine aw2 ?_) | (refine ap4 ?_ ?_ <;> first | exact True.intro | intro h) | (with_reducible refine tr_two ?_ ?_))
  ((with_reducible apply fp_ret); exact res_1 rfl rfl)
  exact HR.out _ _ _ [] (by (exact atks)) ⟨rfl, rfl⟩
end Go.Proofs.YtfgkhkpngnhimaaGreat
