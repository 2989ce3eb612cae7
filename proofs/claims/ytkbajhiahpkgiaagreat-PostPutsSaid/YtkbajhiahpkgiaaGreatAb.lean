
/- mudlarkkit: flat.. of no list: their contracts. mudlarkkit.ApartBytes: its contract. -/
import Derived.Test.YtkbajhiahpkgiaaGreatKi
import Derived.Test.YtkbajhiahpkgiaaGreatFb
namespace Go.Proofs.YtkbajhiahpkgiaaGreat
open Go.RowKit Sx

set_option maxRecDepth 10000 in
set_option maxHeartbeats 1000000 in
theorem flatLimbs_nil (r : Hp) : Tri Tryz.prog r 74 [.slice none 0 0] [] fun w H => w = .bool true ∧ H = [] := by
  refine Tri.free2 fun R HR => ?_
  refine fn_of_sw Tryz.func74 rfl _ rfl ?_; simp only [Tryz.ntmps74, List.length_cons, List.length_nil, Nat.reduceAdd, Nat.reduceSub, List.replicate_succ, List.replicate_zero, List.nil_append, List.cons_append]
  repeat' (first | (refine aw0m ?_) | (refine ap2 ?_ ?_ <;> first | exact True.intro | intro h) | (refine aw1m ?_) | (refine abx ?_; intro bb) | (refine abz ?_; intro bz) | (refine ahv ?_; intro v' hv') | (refine aac ?_; intro ac cc) | (refine aw2 ?_) | (refine ap4 ?_ ?_ <;> first | exact True.intro | intro h) | (with_reducible refine tr_two ?_ ?_))
  refine sw_loop (fun gm t H' => gm = 1 ∧ (∃ G, Takes [] H' G) ∧ (t.length = 200 ∧ t[0]? = some (.slice none 0 0) ∧ t[3]? = some (.int .i64 0))) _ ⟨rfl, ⟨[], by (exact atks)⟩, rfl, (by first | rfl | exact congrArg some (congrArg (Value.int _) (by omega)) | exact congrArg some (congrArg (fun n => Value.slice _ n _) (by omega)) | (congr 2 <;> omega)), (by first | rfl | exact congrArg some (congrArg (Value.int _) (by omega)) | exact congrArg some (congrArg (fun n => Value.slice _ n _) (by omega)) | (congr 2 <;> omega))⟩ ?_
  rintro gm t H' ⟨rfl, ⟨G, hp⟩, hlen, e0, e3⟩
  revert e0 e3; revert t; refine all_len (n := 200) ?_; iterate 200 intro uu'
  intro e0 e3; cases e0; cases e3
  refine sw_takeG hp ?_
  clear hp
  repeat' (first | ((with_reducible apply kx_make0 (c := 0)); exact ty_el; exact ty_inf; rfl; rfl; (omega); (omega); intro bm; (refine apk ?_)) | (refine aw0 ?_) | (refine ap2 ?_ ?_ <;> first | exact True.intro | intro h) | (refine aw1 ?_) | (refine abx ?_; intro bb) | (refine abz ?_; intro bz) | (refine ahv ?_; intro v' hv') | (refine aac ?_; intro ac cc) | (refine aw2 ?_) | (refine ap4 ?_ ?_ <;> first | exact True.intro | intro h) | (with_reducible refine tr_two ?_ ?_))
  refine sw_loop (fun gm t H' => gm = 1 ∧ (∃ G, Takes [] H' G) ∧ (t.length = 200 ∧ t[0]? = some (.slice none 0 0) ∧ t[5]? = some (.slice (some ⟨bm, 0, none⟩) 0 0) ∧ t[6]? = some (.int .i64 0))) _ ⟨rfl, ⟨_, by (exact atks)⟩, rfl, (by first | rfl | exact congrArg some (congrArg (Value.int _) (by omega)) | exact congrArg some (congrArg (fun n => Value.slice _ n _) (by omega)) | (congr 2 <;> omega)), (by first | rfl | exact congrArg some (congrArg (Value.int _) (by omega)) | exact congrArg some (congrArg (fun n => Value.slice _ n _) (by omega)) | (congr 2 <;> omega)), (by first | rfl | exact congrArg some (congrArg (Value.int _) (by omega)) | exact congrArg some (congrArg (fun n => Value.slice _ n _) (by omega)) | (congr 2 <;> omega))⟩ ?_
  rintro gm t H' ⟨rfl, ⟨G, hp⟩, hlen, e0, e5, e6⟩
  revert e0 e5 e6; revert t; refine all_len (n := 200) ?_; iterate 200 intro uu'
  intro e0 e5 e6; cases e0; cases e5; cases e6
  refine sw_takeG hp ?_
  clear hp
  repeat' (first | (refine aw0m ?_) | (refine ap2 ?_ ?_ <;> first | exact True.intro | intro h) | (refine aw1m ?_) | (refine abx ?_; intro bb) | (refine abz ?_; intro bz) | (refine ahv ?_; intro v' hv') | (refine aac ?_; intro ac cc) | (refine aw2 ?_) | (refine ap4 ?_ ?_ <;> first | exact True.intro | intro h) | (with_reducible refine tr_two ?_ ?_))
  refine sw_loop (fun gm t H' => gm = 1 ∧ (∃ G, Takes [] H' G) ∧ (t.length = 200 ∧ t[0]? = some (.slice none 0 0) ∧ t[5]? = some (.slice (some ⟨bm, 0, none⟩) 0 0) ∧ t[9]? = some (.int .i64 0))) _ ⟨rfl, ⟨_, by (exact atks)⟩, rfl, (by first | rfl | exact congrArg some (congrArg (Value.int _) (by omega)) | exact congrArg some (congrArg (fun n => Value.slice _ n _) (by omega)) | (congr 2 <;> omega)), (by first | rfl | exact congrArg some (congrArg (Value.int _) (by omega)) | exact congrArg some (congrArg (fun n => Value.slice _ n _) (by omega)) | (congr 2 <;> omega)), (by first | rfl | exact congrArg some (congrArg (Value.int _) (by omega)) | exact congrArg some (congrArg (fun n => Value.slice _ n _) (by omega)) | (congr 2 <;> omega))⟩ ?_
  rintro gm t H' ⟨rfl, ⟨G, hp⟩, hlen, e0, e5, e9⟩
  revert e0 e5 e9; revert t; refine all_len (n := 200) ?_; iterate 200 intro uu'
  intro e0 e5 e9; cases e0; cases e5; cases e9
  refine sw_takeG hp ?_
  clear hp
  repeat' (first | (refine aw0m ?_) | (refine ap2 ?_ ?_ <;> first | exact True.intro | intro h) | (refine aw1m ?_) | (refine abx ?_; intro bb) | (refine abz ?_; intro bz) | (refine ahv ?_; intro v' hv') | (refine aac ?_; intro ac cc) | (refine aw2 ?_) | (refine ap4 ?_ ?_ <;> first | exact True.intro | intro h) | (with_reducible refine tr_two ?_ ?_))
  refine sw_loop (fun gm t H' => gm = 1 ∧ (∃ G, Takes [] H' G) ∧ (t.length = 200 ∧ t[0]? = some (.slice none 0 0) ∧ t[5]? = some (.slice (some ⟨bm, 0, none⟩) 0 0) ∧ t[11]? = some (.int .i64 0))) _ ⟨rfl, ⟨_, by (exact atks)⟩, rfl, (by first | rfl | exact congrArg some (congrArg (Value.int _) (by omega)) | exact congrArg some (congrArg (fun n => Value.slice _ n _) (by omega)) | (congr 2 <;> omega)), (by first | rfl | exact congrArg some (congrArg (Value.int _) (by omega)) | exact congrArg some (congrArg (fun n => Value.slice _ n _) (by omega)) | (congr 2 <;> omega)), (by first | rfl | exact congrArg some (congrArg (Value.int _) (by omega)) | exact congrArg some (congrArg (fun n => Value.slice _ n _) (by omega)) | (congr 2 <;> omega))⟩ ?_
  rintro gm t H' ⟨rfl, ⟨G, hp⟩, hlen, e0, e5, e11⟩
  revert e0 e5 e11; revert t; refine all_len (n := 200) ?_; iterate 200 intro uu'
  intro e0 e5 e11; cases e0; cases e5; cases e11
  refine sw_takeG hp ?_
  clear hp
  repeat' (first | (refine aw0m ?_) | (refine ap2 ?_ ?_ <;> first | exact True.intro | intro h) | (refine aw1m ?_) | (refine abx ?_; intro bb) | (refine abz ?_; intro bz) | (refine ahv ?_; intro v' hv') | (refine aac ?_; intro ac cc) | (refine aw2 ?_) | (refine ap4 ?_ ?_ <;> first | exact True.intro | intro h) | (with_reducible refine tr_two ?_ ?_))
  refine sw_loop (fun gm t H' => gm = 1 ∧ (∃ G, Takes [] H' G) ∧ (t.length = 200 ∧ t[0]? = some (.slice none 0 0) ∧ t[5]? = some (.slice (some ⟨bm, 0, none⟩) 0 0) ∧ t[14]? = some (.int .i64 0))) _ ⟨rfl, ⟨_, by (exact atks)⟩, rfl, (by first | rfl | exact congrArg some (congrArg (Value.int _) (by omega)) | exact congrArg some (congrArg (fun n => Value.slice _ n _) (by omega)) | (congr 2 <;> omega)), (by first | rfl | exact congrArg some (congrArg (Value.int _) (by omega)) | exact congrArg some (congrArg (fun n => Value.slice _ n _) (by omega)) | (congr 2 <;> omega)), (by first | rfl | exact congrArg some (congrArg (Value.int _) (by omega)) | exact congrArg some (congrArg (fun n => Value.slice _ n _) (by omega)) | (congr 2 <;> omega))⟩ ?_
  rintro gm t H' ⟨rfl, ⟨G, hp⟩, hlen, e0, e5, e14⟩
  revert e0 e5 e14; revert t; refine all_len (n := 200) ?_; iterate 200 intro uu'
  intro e0 e5 e14; cases e0; cases e5; cases e14
  refine sw_takeG hp ?_
  clear hp
  repeat' (first | (refine aw0m ?_) | (refine ap2 ?_ ?_ <;> first | exact True.intro | intro h) | (refine aw1m ?_) | (refine abx ?_; intro bb) | (refine abz ?_; intro bz) | (refine ahv ?_; intro v' hv') | (refine aac ?_; intro ac cc) | (refine aw2 ?_) | (refine ap4 ?_ ?_ <;> first | exact True.intro | intro h) | (with_reducible refine tr_two ?_ ?_))
  ((with_reducible apply fp_ret); exact res_1 rfl rfl)
  exact HR.out _ _ _ [] (by (exact atks)) ⟨rfl, rfl⟩
set_option maxRecDepth 10000 in
set_option maxHeartbeats 1000000 in
theorem flatWords_nil (r : Hp) : Tri Tryz.prog r 75 [.slice none 0 0] [] fun w H => w = .bool true ∧ H = [] := by
  refine Tri.free2 fun R HR => ?_
  refine fn_of_sw Tryz.func75 rfl _ rfl ?_; simp only [Tryz.ntmps75, List.length_cons, List.length_nil, Nat.reduceAdd, Nat.reduceSub, List.replicate_succ, List.replicate_zero, List.nil_append, List.cons_append]
  repeat' (first | (refine aw0m ?_) | (refine ap2 ?_ ?_ <;> first | exact True.intro | intro h) | (refine aw1m ?_) | (refine abx ?_; intro bb) | (refine abz ?_; intro bz) | (refine ahv ?_; intro v' hv') | (refine aac ?_; intro ac cc) | (refine aw2 ?_) | (refine ap4 ?_ ?_ <;> first | exact True.intro | intro h) | (with_reducible refine tr_two ?_ ?_))
  refine sw_loop (fun gm t H' => gm = 1 ∧ (∃ G, Takes [] H' G) ∧ (t.length = 200 ∧ t[0]? = some (.slice none 0 0) ∧ t[3]? = some (.int .i64 0))) _ ⟨rfl, ⟨[], by (exact atks)⟩, rfl, (by first | rfl | exact congrArg some (congrArg (Value.int _) (by omega)) | exact congrArg some (congrArg (fun n => Value.slice _ n _) (by omega)) | (congr 2 <;> omega)), (by first | rfl | exact congrArg some (congrArg (Value.int _) (by omega)) | exact congrArg some (congrArg (fun n => Value.slice _ n _) (by omega)) | (congr 2 <;> omega))⟩ ?_
  rintro gm t H' ⟨rfl, ⟨G, hp⟩, hlen, e0, e3⟩
  revert e0 e3; revert t; refine all_len (n := 200) ?_; iterate 200 intro uu'
  intro e0 e3; cases e0; cases e3
  refine sw_takeG hp ?_
  clear hp
  repeat' (first | ((with_reducible apply kx_make0 (c := 0)); exact ty_el; exact ty_inf; rfl; rfl; (omega); (omega); intro bm; (refine apk ?_)) | (refine aw0 ?_) | (refine ap2 ?_ ?_ <;> first | exact True.intro | intro h) | (refine aw1 ?_) | (refine abx ?_; intro bb) | (refine abz ?_; intro bz) | (refine ahv ?_; intro v' hv') | (refine aac ?_; intro ac cc) | (refine aw2 ?_) | (refine ap4 ?_ ?_ <;> first | exact True.intro | intro h) | (with_reducible refine tr_two ?_ ?_))
  refine sw_loop (fun gm t H' => gm = 1 ∧ (∃ G, Takes [] H' G) ∧ (t.length = 200 ∧ t[0]? = some (.slice none 0 0) ∧ t[5]? = some (.slice (some ⟨bm, 0, none⟩) 0 0) ∧ t[6]? = some (.int .i64 0))) _ ⟨rfl, ⟨_, by (exact atks)⟩, rfl, (by first | rfl | exact congrArg some (congrArg (Value.int _) (by omega)) | exact congrArg some (congrArg (fun n => Value.slice _ n _) (by omega)) | (congr 2 <;> omega)), (by first | rfl | exact congrArg some (congrArg (Value.int _) (by omega)) | exact congrArg some (congrArg (fun n => Value.slice _ n _) (by omega)) | (congr 2 <;> omega)), (by first | rfl | exact congrArg some (congrArg (Value.int _) (by omega)) | exact congrArg some (congrArg (fun n => Value.slice _ n _) (by omega)) | (congr 2 <;> omega))⟩ ?_
  rintro gm t H' ⟨rfl, ⟨G, hp⟩, hlen, e0, e5, e6⟩
  revert e0 e5 e6; revert t; refine all_len (n := 200) ?_; iterate 200 intro uu'
  intro e0 e5 e6; cases e0; cases e5; cases e6
  refine sw_takeG hp ?_
  clear hp
  repeat' (first | (refine aw0m ?_) | (refine ap2 ?_ ?_ <;> first | exact True.intro | intro h) | (refine aw1m ?_) | (refine abx ?_; intro bb) | (refine abz ?_; intro bz) | (refine ahv ?_; intro v' hv') | (refine aac ?_; intro ac cc) | (refine aw2 ?_) | (refine ap4 ?_ ?_ <;> first | exact True.intro | intro h) | (with_reducible refine tr_two ?_ ?_))
  refine sw_loop (fun gm t H' => gm = 1 ∧ (∃ G, Takes [] H' G) ∧ (t.length = 200 ∧ t[0]? = some (.slice none 0 0) ∧ t[5]? = some (.slice (some ⟨bm, 0, none⟩) 0 0) ∧ t[9]? = some (.int .i64 0))) _ ⟨rfl, ⟨_, by (exact atks)⟩, rfl, (by first | rfl | exact congrArg some (congrArg (Value.int _) (by omega)) | exact congrArg some (congrArg (fun n => Value.slice _ n _) (by omega)) | (congr 2 <;> omega)), (by first | rfl | exact congrArg some (congrArg (Value.int _) (by omega)) | exact congrArg some (congrArg (fun n => Value.slice _ n _) (by omega)) | (congr 2 <;> omega)), (by first | rfl | exact congrArg some (congrArg (Value.int _) (by omega)) | exact congrArg some (congrArg (fun n => Value.slice _ n _) (by omega)) | (congr 2 <;> omega))⟩ ?_
  rintro gm t H' ⟨rfl, ⟨G, hp⟩, hlen, e0, e5, e9⟩
  revert e0 e5 e9; revert t; refine all_len (n := 200) ?_; iterate 200 intro uu'
  intro e0 e5 e9; cases e0; cases e5; cases e9
  refine sw_takeG hp ?_
  clear hp
  repeat' (first | (refine aw0m ?_) | (refine ap2 ?_ ?_ <;> first | exact True.intro | intro h) | (refine aw1m ?_) | (refine abx ?_; intro bb) | (refine abz ?_; intro bz) | (refine ahv ?_; intro v' hv') | (refine aac ?_; intro ac cc) | (refine aw2 ?_) | (refine ap4 ?_ ?_ <;> first | exact True.intro | intro h) | (with_reducible refine tr_two ?_ ?_))
  refine sw_loop (fun gm t H' => gm = 1 ∧ (∃ G, Takes [] H' G) ∧ (t.length = 200 ∧ t[0]? = some (.slice none 0 0) ∧ t[5]? = some (.slice (some ⟨bm, 0, none⟩) 0 0) ∧ t[11]? = some (.int .i64 0))) _ ⟨rfl, ⟨_, by (exact atks)⟩, rfl, (by first | rfl | exact congrArg some (congrArg (Value.int _) (by omega)) | exact congrArg some (congrArg (fun n => Value.slice _ n _) (by omega)) | (congr 2 <;> omega)), (by first | rfl | exact congrArg some (congrArg (Value.int _) (by omega)) | exact congrArg some (congrArg (fun n => Value.slice _ n _) (by omega)) | (congr 2 <;> omega)), (by first | rfl | exact congrArg some (congrArg (Value.int _) (by omega)) | exact congrArg some (congrArg (fun n => Value.slice _ n _) (by omega)) | (congr 2 <;> omega))⟩ ?_
  rintro gm t H' ⟨rfl, ⟨G, hp⟩, hlen, e0, e5, e11⟩
  revert e0 e5 e11; revert t; refine all_len (n := 200) ?_; iterate 200 intro uu'
  intro e0 e5 e11; cases e0; cases e5; cases e11
  refine sw_takeG hp ?_
  clear hp
  repeat' (first | (refine aw0m ?_) | (refine ap2 ?_ ?_ <;> first | exact True.intro | intro h) | (refine aw1m ?_) | (refine abx ?_; intro bb) | (refine abz ?_; intro bz) | (refine ahv ?_; intro v' hv') | (refine aac ?_; intro ac cc) | (refine aw2 ?_) | (refine ap4 ?_ ?_ <;> first | exact True.intro | intro h) | (with_reducible refine tr_two ?_ ?_))
  refine sw_loop (fun gm t H' => gm = 1 ∧ (∃ G, Takes [] H' G) ∧ (t.length = 200 ∧ t[0]? = some (.slice none 0 0) ∧ t[5]? = some (.slice (some ⟨bm, 0, none⟩) 0 0) ∧ t[14]? = some (.int .i64 0))) _ ⟨rfl, ⟨_, by (exact atks)⟩, rfl, (by first | rfl | exact congrArg some (congrArg (Value.int _) (by omega)) | exact congrArg some (congrArg (fun n => Value.slice _ n _) (by omega)) | (congr 2 <;> omega)), (by first | rfl | exact congrArg some (congrArg (Value.int _) (by omega)) | exact congrArg some (congrArg (fun n => Value.slice _ n _) (by omega)) | (congr 2 <;> omega)), (by first | rfl | exact congrArg some (congrArg (Value.int _) (by omega)) | exact congrArg some (congrArg (fun n => Value.slice _ n _) (by omega)) | (congr 2 <;> omega))⟩ ?_
  rintro gm t H' ⟨rfl, ⟨G, hp⟩, hlen, e0, e5, e14⟩
  revert e0 e5 e14; revert t; refine all_len (n := 200) ?_; iterate 200 intro uu'
  intro e0 e5 e14; cases e0; cases e5; cases e14
  refine sw_takeG hp ?_
  clear hp
  repeat' (first | (refine aw0m ?_) | (refine ap2 ?_ ?_ <;> first | exact True.intro | intro h) | (refine aw1m ?_) | (refine abx ?_; intro bb) | (refine abz ?_; intro bz) | (refine ahv ?_; intro v' hv') | (refine aac ?_; intro ac cc) | (refine aw2 ?_) | (refine ap4 ?_ ?_ <;> first | exact True.intro | intro h) | (with_reducible refine tr_two ?_ ?_))
  ((with_reducible apply fp_ret); exact res_1 rfl rfl)
  exact HR.out _ _ _ [] (by (exact atks)) ⟨rfl, rfl⟩
set_option maxRecDepth 10000 in
set_option maxHeartbeats 1000000 in
theorem flatInts_nil (r : Hp) : Tri Tryz.prog r 76 [.slice none 0 0] [] fun w H => w = .bool true ∧ H = [] := by
  refine Tri.free2 fun R HR => ?_
  refine fn_of_sw Tryz.func76 rfl _ rfl ?_; simp only [Tryz.ntmps76, List.length_cons, List.length_nil, Nat.reduceAdd, Nat.reduceSub, List.replicate_succ, List.replicate_zero, List.nil_append, List.cons_append]
  repeat' (first | (refine aw0m ?_) | (refine ap2 ?_ ?_ <;> first | exact True.intro | intro h) | (refine aw1m ?_) | (refine abx ?_; intro bb) | (refine abz ?_; intro bz) | (refine ahv ?_; intro v' hv') | (refine aac ?_; intro ac cc) | (refine aw2 ?_) | (refine ap4 ?_ ?_ <;> first | exact True.intro | intro h) | (with_reducible refine tr_two ?_ ?_))
  refine sw_loop (fun gm t H' => gm = 1 ∧ (∃ G, Takes [] H' G) ∧ (t.length = 193 ∧ t[0]? = some (.slice none 0 0) ∧ t[3]? = some (.int .i64 0))) _ ⟨rfl, ⟨[], by (exact atks)⟩, rfl, (by first | rfl | exact congrArg some (congrArg (Value.int _) (by omega)) | exact congrArg some (congrArg (fun n => Value.slice _ n _) (by omega)) | (congr 2 <;> omega)), (by first | rfl | exact congrArg some (congrArg (Value.int _) (by omega)) | exact congrArg some (congrArg (fun n => Value.slice _ n _) (by omega)) | (congr 2 <;> omega))⟩ ?_
  rintro gm t H' ⟨rfl, ⟨G, hp⟩, hlen, e0, e3⟩
  revert e0 e3; revert t; refine all_len (n := 193) ?_; iterate 193 intro uu'
  intro e0 e3; cases e0; cases e3
  refine sw_takeG hp ?_
  clear hp
  repeat' (first | ((with_reducible apply kx_make0 (c := 0)); exact ty_el; exact ty_inf; rfl; rfl; (omega); (omega); intro bm; (refine apk ?_)) | (refine aw0 ?_) | (refine ap2 ?_ ?_ <;> first | exact True.intro | intro h) | (refine aw1 ?_) | (refine abx ?_; intro bb) | (refine abz ?_; intro bz) | (refine ahv ?_; intro v' hv') | (refine aac ?_; intro ac cc) | (refine aw2 ?_) | (refine ap4 ?_ ?_ <;> first | exact True.intro | intro h) | (with_reducible refine tr_two ?_ ?_))
  refine sw_loop (fun gm t H' => gm = 1 ∧ (∃ G, Takes [] H' G) ∧ (t.length = 193 ∧ t[0]? = some (.slice none 0 0) ∧ t[5]? = some (.slice (some ⟨bm, 0, none⟩) 0 0) ∧ t[6]? = some (.int .i64 0))) _ ⟨rfl, ⟨_, by (exact atks)⟩, rfl, (by first | rfl | exact congrArg some (congrArg (Value.int _) (by omega)) | exact congrArg some (congrArg (fun n => Value.slice _ n _) (by omega)) | (congr 2 <;> omega)), (by first | rfl | exact congrArg some (congrArg (Value.int _) (by omega)) | exact congrArg some (congrArg (fun n => Value.slice _ n _) (by omega)) | (congr 2 <;> omega)), (by first | rfl | exact congrArg some (congrArg (Value.int _) (by omega)) | exact congrArg some (congrArg (fun n => Value.slice _ n _) (by omega)) | (congr 2 <;> omega))⟩ ?_
  rintro gm t H' ⟨rfl, ⟨G, hp⟩, hlen, e0, e5, e6⟩
  revert e0 e5 e6; revert t; refine all_len (n := 193) ?_; iterate 193 intro uu'
  intro e0 e5 e6; cases e0; cases e5; cases e6
  refine sw_takeG hp ?_
  clear hp
  repeat' (first | (refine aw0m ?_) | (refine ap2 ?_ ?_ <;> first | exact True.intro | intro h) | (refine aw1m ?_) | (refine abx ?_; intro bb) | (refine abz ?_; intro bz) | (refine ahv ?_; intro v' hv') | (refine aac ?_; intro ac cc) | (refine aw2 ?_) | (refine ap4 ?_ ?_ <;> first | exact True.intro | intro h) | (with_reducible refine tr_two ?_ ?_))
  refine sw_loop (fun gm t H' => gm = 1 ∧ (∃ G, Takes [] H' G) ∧ (t.length = 193 ∧ t[0]? = some (.slice none 0 0) ∧ t[5]? = some (.slice (some ⟨bm, 0, none⟩) 0 0) ∧ t[9]? = some (.int .i64 0))) _ ⟨rfl, ⟨_, by (exact atks)⟩, rfl, (by first | rfl | exact congrArg some (congrArg (Value.int _) (by omega)) | exact congrArg some (congrArg (fun n => Value.slice _ n _) (by omega)) | (congr 2 <;> omega)), (by first | rfl | exact congrArg some (congrArg (Value.int _) (by omega)) | exact congrArg some (congrArg (fun n => Value.slice _ n _) (by omega)) | (congr 2 <;> omega)), (by first | rfl | exact congrArg some (congrArg (Value.int _) (by omega)) | exact congrArg some (congrArg (fun n => Value.slice _ n _) (by omega)) | (congr 2 <;> omega))⟩ ?_
  rintro gm t H' ⟨rfl, ⟨G, hp⟩, hlen, e0, e5, e9⟩
  revert e0 e5 e9; revert t; refine all_len (n := 193) ?_; iterate 193 intro uu'
  intro e0 e5 e9; cases e0; cases e5; cases e9
  refine sw_takeG hp ?_
  clear hp
  repeat' (first | (refine aw0m ?_) | (refine ap2 ?_ ?_ <;> first | exact True.intro | intro h) | (refine aw1m ?_) | (refine abx ?_; intro bb) | (refine abz ?_; intro bz) | (refine ahv ?_; intro v' hv') | (refine aac ?_; intro ac cc) | (refine aw2 ?_) | (refine ap4 ?_ ?_ <;> first | exact True.intro | intro h) | (with_reducible refine tr_two ?_ ?_))
  refine sw_loop (fun gm t H' => gm = 1 ∧ (∃ G, Takes [] H' G) ∧ (t.length = 193 ∧ t[0]? = some (.slice none 0 0) ∧ t[5]? = some (.slice (some ⟨bm, 0, none⟩) 0 0) ∧ t[11]? = some (.int .i64 0))) _ ⟨rfl, ⟨_, by (exact atks)⟩, rfl, (by first | rfl | exact congrArg some (congrArg (Value.int _) (by omega)) | exact congrArg some (congrArg (fun n => Value.slice _ n _) (by omega)) | (congr 2 <;> omega)), (by first | rfl | exact congrArg some (congrArg (Value.int _) (by omega)) | exact congrArg some (congrArg (fun n => Value.slice _ n _) (by omega)) | (congr 2 <;> omega)), (by first | rfl | exact congrArg some (congrArg (Value.int _) (by omega)) | exact congrArg some (congrArg (fun n => Value.slice _ n _) (by omega)) | (congr 2 <;> omega))⟩ ?_
  rintro gm t H' ⟨rfl, ⟨G, hp⟩, hlen, e0, e5, e11⟩
  revert e0 e5 e11; revert t; refine all_len (n := 193) ?_; iterate 193 intro uu'
  intro e0 e5 e11; cases e0; cases e5; cases e11
  refine sw_takeG hp ?_
  clear hp
  repeat' (first | (refine aw0m ?_) | (refine ap2 ?_ ?_ <;> first | exact True.intro | intro h) | (refine aw1m ?_) | (refine abx ?_; intro bb) | (refine abz ?_; intro bz) | (refine ahv ?_; intro v' hv') | (refine aac ?_; intro ac cc) | (refine aw2 ?_) | (refine ap4 ?_ ?_ <;> first | exact True.intro | intro h) | (with_reducible refine tr_two ?_ ?_))
  refine sw_loop (fun gm t H' => gm = 1 ∧ (∃ G, Takes [] H' G) ∧ (t.length = 193 ∧ t[0]? = some (.slice none 0 0) ∧ t[5]? = some (.slice (some ⟨bm, 0, none⟩) 0 0) ∧ t[14]? = some (.int .i64 0))) _ ⟨rfl, ⟨_, by (exact atks)⟩, rfl, (by first | rfl | exact congrArg some (congrArg (Value.int _) (by omega)) | exact congrArg some (congrArg (fun n => Value.slice _ n _) (by omega)) | (congr 2 <;> omega)), (by first | rfl | exact congrArg some (congrArg (Value.int _) (by omega)) | exact congrArg some (congrArg (fun n => Value.slice _ n _) (by omega)) | (congr 2 <;> omega)), (by first | rfl | exact congrArg some (congrArg (Value.int _) (by omega)) | exact congrArg some (congrArg (fun n => Value.slice _ n _) (by omega)) | (congr 2 <;> omega))⟩ ?_
  rintro gm t H' ⟨rfl, ⟨G, hp⟩, hlen, e0, e5, e14⟩
  revert e0 e5 e14; revert t; refine all_len (n := 193) ?_; iterate 193 intro uu'
  intro e0 e5 e14; cases e0; cases e5; cases e14
  refine sw_takeG hp ?_
  clear hp
  repeat' (first | (refine aw0m ?_) | (refine ap2 ?_ ?_ <;> first | exact True.intro | intro h) | (refine aw1m ?_) | (refine abx ?_; intro bb) | (refine abz ?_; intro bz) | (refine ahv ?_; intro v' hv') | (refine aac ?_; intro ac cc) | (refine aw2 ?_) | (refine ap4 ?_ ?_ <;> first | exact True.intro | intro h) | (with_reducible refine tr_two ?_ ?_))
  ((with_reducible apply fp_ret); exact res_1 rfl rfl)
  exact HR.out _ _ _ [] (by (exact atks)) ⟨rfl, rfl⟩
set_option maxRecDepth 10000 in
set_option maxHeartbeats 1000000 in
theorem flatLongs_nil (r : Hp) : Tri Tryz.prog r 77 [.slice none 0 0] [] fun w H => w = .bool true ∧ H = [] := by
  refine Tri.free2 fun R HR => ?_
  refine fn_of_sw Tryz.func77 rfl _ rfl ?_; simp only [Tryz.ntmps77, List.length_cons, List.length_nil, Nat.reduceAdd, Nat.reduceSub, List.replicate_succ, List.replicate_zero, List.nil_append, List.cons_append]
  repeat' (first | (refine aw0m ?_) | (refine ap2 ?_ ?_ <;> first | exact True.intro | intro h) | (refine aw1m ?_) | (refine abx ?_; intro bb) | (refine abz ?_; intro bz) | (refine ahv ?_; intro v' hv') | (refine aac ?_; intro ac cc) | (refine aw2 ?_) | (refine ap4 ?_ ?_ <;> first | exact True.intro | intro h) | (with_reducible refine tr_two ?_ ?_))
  refine sw_loop (fun gm t H' => gm = 1 ∧ (∃ G, Takes [] H' G) ∧ (t.length = 193 ∧ t[0]? = some (.slice none 0 0) ∧ t[3]? = some (.int .i64 0))) _ ⟨rfl, ⟨[], by (exact atks)⟩, rfl, (by first | rfl | exact congrArg some (congrArg (Value.int _) (by omega)) | exact congrArg some (congrArg (fun n => Value.slice _ n _) (by omega)) | (congr 2 <;> omega)), (by first | rfl | exact congrArg some (congrArg (Value.int _) (by omega)) | exact congrArg some (congrArg (fun n => Value.slice _ n _) (by omega)) | (congr 2 <;> omega))⟩ ?_
  rintro gm t H' ⟨rfl, ⟨G, hp⟩, hlen, e0, e3⟩
  revert e0 e3; revert t; refine all_len (n := 193) ?_; iterate 193 intro uu'
  intro e0 e3; cases e0; cases e3
  refine sw_takeG hp ?_
  clear hp
  repeat' (first | ((with_reducible apply kx_make0 (c := 0)); exact ty_el; exact ty_inf; rfl; rfl; (omega); (omega); intro bm; (refine apk ?_)) | (refine aw0 ?_) | (refine ap2 ?_ ?_ <;> first | exact True.intro | intro h) | (refine aw1 ?_) | (refine abx ?_; intro bb) | (refine abz ?_; intro bz) | (refine ahv ?_; intro v' hv') | (refine aac ?_; intro ac cc) | (refine aw2 ?_) | (refine ap4 ?_ ?_ <;> first | exact True.intro | intro h) | (with_reducible refine tr_two ?_ ?_))
  refine sw_loop (fun gm t H' => gm = 1 ∧ (∃ G, Takes [] H' G) ∧ (t.length = 193 ∧ t[0]? = some (.slice none 0 0) ∧ t[5]? = some (.slice (some ⟨bm, 0, none⟩) 0 0) ∧ t[6]? = some (.int .i64 0))) _ ⟨rfl, ⟨_, by (exact atks)⟩, rfl, (by first | rfl | exact congrArg some (congrArg (Value.int _) (by omega)) | exact congrArg some (congrArg (fun n => Value.slice _ n _) (by omega)) | (congr 2 <;> omega)), (by first | rfl | exact congrArg some (congrArg (Value.int _) (by omega)) | exact congrArg some (congrArg (fun n => Value.slice _ n _) (by omega)) | (congr 2 <;> omega)), (by first | rfl | exact congrArg some (congrArg (Value.int _) (by omega)) | exact congrArg some (congrArg (fun n => Value.slice _ n _) (by omega)) | (congr 2 <;> omega))⟩ ?_
  rintro gm t H' ⟨rfl, ⟨G, hp⟩, hlen, e0, e5, e6⟩
  revert e0 e5 e6; revert t; refine all_len (n := 193) ?_; iterate 193 intro uu'
  intro e0 e5 e6; cases e0; cases e5; cases e6
  refine sw_takeG hp ?_
  clear hp
  repeat' (first | (refine aw0m ?_) | (refine ap2 ?_ ?_ <;> first | exact True.intro | intro h) | (refine aw1m ?_) | (refine abx ?_; intro bb) | (refine abz ?_; intro bz) | (refine ahv ?_; intro v' hv') | (refine aac ?_; intro ac cc) | (refine aw2 ?_) | (refine ap4 ?_ ?_ <;> first | exact True.intro | intro h) | (with_reducible refine tr_two ?_ ?_))
  refine sw_loop (fun gm t H' => gm = 1 ∧ (∃ G, Takes [] H' G) ∧ (t.length = 193 ∧ t[0]? = some (.slice none 0 0) ∧ t[5]? = some (.slice (some ⟨bm, 0, none⟩) 0 0) ∧ t[9]? = some (.int .i64 0))) _ ⟨rfl, ⟨_, by (exact atks)⟩, rfl, (by first | rfl | exact congrArg some (congrArg (Value.int _) (by omega)) | exact congrArg some (congrArg (fun n => Value.slice _ n _) (by omega)) | (congr 2 <;> omega)), (by first | rfl | exact congrArg some (congrArg (Value.int _) (by omega)) | exact congrArg some (congrArg (fun n => Value.slice _ n _) (by omega)) | (congr 2 <;> omega)), (by first | rfl | exact congrArg some (congrArg (Value.int _) (by omega)) | exact congrArg some (congrArg (fun n => Value.slice _ n _) (by omega)) | (congr 2 <;> omega))⟩ ?_
  rintro gm t H' ⟨rfl, ⟨G, hp⟩, hlen, e0, e5, e9⟩
  revert e0 e5 e9; revert t; refine all_len (n := 193) ?_; iterate 193 intro uu'
  intro e0 e5 e9; cases e0; cases e5; cases e9
  refine sw_takeG hp ?_
  clear hp
  repeat' (first | (refine aw0m ?_) | (refine ap2 ?_ ?_ <;> first | exact True.intro | intro h) | (refine aw1m ?_) | (refine abx ?_; intro bb) | (refine abz ?_; intro bz) | (refine ahv ?_; intro v' hv') | (refine aac ?_; intro ac cc) | (refine aw2 ?_) | (refine ap4 ?_ ?_ <;> first | exact True.intro | intro h) | (with_reducible refine tr_two ?_ ?_))
  refine sw_loop (fun gm t H' => gm = 1 ∧ (∃ G, Takes [] H' G) ∧ (t.length = 193 ∧ t[0]? = some (.slice none 0 0) ∧ t[5]? = some (.slice (some ⟨bm, 0, none⟩) 0 0) ∧ t[11]? = some (.int .i64 0))) _ ⟨rfl, ⟨_, by (exact atks)⟩, rfl, (by first | rfl | exact congrArg some (congrArg (Value.int _) (by omega)) | exact congrArg some (congrArg (fun n => Value.slice _ n _) (by omega)) | (congr 2 <;> omega)), (by first | rfl | exact congrArg some (congrArg (Value.int _) (by omega)) | exact congrArg some (congrArg (fun n => Value.slice _ n _) (by omega)) | (congr 2 <;> omega)), (by first | rfl | exact congrArg some (congrArg (Value.int _) (by omega)) | exact congrArg some (congrArg (fun n => Value.slice _ n _) (by omega)) | (congr 2 <;> omega))⟩ ?_
  rintro gm t H' ⟨rfl, ⟨G, hp⟩, hlen, e0, e5, e11⟩
  revert e0 e5 e11; revert t; refine all_len (n := 193) ?_; iterate 193 intro uu'
  intro e0 e5 e11; cases e0; cases e5; cases e11
  refine sw_takeG hp ?_
  clear hp
  repeat' (first | (refine aw0m ?_) | (refine ap2 ?_ ?_ <;> first | exact True.intro | intro h) | (refine aw1m ?_) | (refine abx ?_; intro bb) | (refine abz ?_; intro bz) | (refine ahv ?_; intro v' hv') | (refine aac ?_; intro ac cc) | (refine aw2 ?_) | (refine ap4 ?_ ?_ <;> first | exact True.intro | intro h) | (with_reducible refine tr_two ?_ ?_))
  refine sw_loop (fun gm t H' => gm = 1 ∧ (∃ G, Takes [] H' G) ∧ (t.length = 193 ∧ t[0]? = some (.slice none 0 0) ∧ t[5]? = some (.slice (some ⟨bm, 0, none⟩) 0 0) ∧ t[14]? = some (.int .i64 0))) _ ⟨rfl, ⟨_, by (exact atks)⟩, rfl, (by first | rfl | exact congrArg some (congrArg (Value.int _) (by omega)) | exact congrArg some (congrArg (fun n => Value.slice _ n _) (by omega)) | (congr 2 <;> omega)), (by first | rfl | exact congrArg some (congrArg (Value.int _) (by omega)) | exact congrArg some (congrArg (fun n => Value.slice _ n _) (by omega)) | (congr 2 <;> omega)), (by first | rfl | exact congrArg some (congrArg (Value.int _) (by omega)) | exact congrArg some (congrArg (fun n => Value.slice _ n _) (by omega)) | (congr 2 <;> omega))⟩ ?_
  rintro gm t H' ⟨rfl, ⟨G, hp⟩, hlen, e0, e5, e14⟩
  revert e0 e5 e14; revert t; refine all_len (n := 193) ?_; iterate 193 intro uu'
  intro e0 e5 e14; cases e0; cases e5; cases e14
  refine sw_takeG hp ?_
  clear hp
  repeat' (first | (refine aw0m ?_) | (refine ap2 ?_ ?_ <;> first | exact True.intro | intro h) | (refine aw1m ?_) | (refine abx ?_; intro bb) | (refine abz ?_; intro bz) | (refine ahv ?_; intro v' hv') | (refine aac ?_; intro ac cc) | (refine aw2 ?_) | (refine ap4 ?_ ?_ <;> first | exact True.intro | intro h) | (with_reducible refine tr_two ?_ ?_))
  ((with_reducible apply fp_ret); exact res_1 rfl rfl)
  exact HR.out _ _ _ [] (by (exact atks)) ⟨rfl, rfl⟩
set_option maxRecDepth 10000 in
set_option maxHeartbeats 1000000 in
theorem flatTexts_nil (r : Hp) : Tri Tryz.prog r 78 [.slice none 0 0] [] fun w H => w = .bool true ∧ H = [] := by
  refine Tri.free2 fun R HR => ?_
  refine fn_of_sw Tryz.func78 rfl _ rfl ?_; simp only [Tryz.ntmps78, List.length_cons, List.length_nil, Nat.reduceAdd, Nat.reduceSub, List.replicate_succ, List.replicate_zero, List.nil_append, List.cons_append]
  repeat' (first | (refine aw0m ?_) | (refine ap2 ?_ ?_ <;> first | exact True.intro | intro h) | (refine aw1m ?_) | (refine abx ?_; intro bb) | (refine abz ?_; intro bz) | (refine ahv ?_; intro v' hv') | (refine aac ?_; intro ac cc) | (refine aw2 ?_) | (refine ap4 ?_ ?_ <;> first | exact True.intro | intro h) | (with_reducible refine tr_two ?_ ?_))
  refine sw_loop (fun gm t H' => gm = 1 ∧ (∃ G, Takes [] H' G) ∧ (t.length = 193 ∧ t[0]? = some (.slice none 0 0) ∧ t[3]? = some (.int .i64 0))) _ ⟨rfl, ⟨[], by (exact atks)⟩, rfl, (by first | rfl | exact congrArg some (congrArg (Value.int _) (by omega)) | exact congrArg some (congrArg (fun n => Value.slice _ n _) (by omega)) | (congr 2 <;> omega)), (by first | rfl | exact congrArg some (congrArg (Value.int _) (by omega)) | exact congrArg some (congrArg (fun n => Value.slice _ n _) (by omega)) | (congr 2 <;> omega))⟩ ?_
  rintro gm t H' ⟨rfl, ⟨G, hp⟩, hlen, e0, e3⟩
  revert e0 e3; revert t; refine all_len (n := 193) ?_; iterate 193 intro uu'
  intro e0 e3; cases e0; cases e3
  refine sw_takeG hp ?_
  clear hp
  repeat' (first | ((with_reducible apply kx_make0 (c := 0)); exact ty_el; exact ty_inf; rfl; rfl; (omega); (omega); intro bm; (refine apk ?_)) | (refine aw0 ?_) | (refine ap2 ?_ ?_ <;> first | exact True.intro | intro h) | (refine aw1 ?_) | (refine abx ?_; intro bb) | (refine abz ?_; intro bz) | (refine ahv ?_; intro v' hv') | (refine aac ?_; intro ac cc) | (refine aw2 ?_) | (refine ap4 ?_ ?_ <;> first | exact True.intro | intro h) | (with_reducible refine tr_two ?_ ?_))
  refine sw_loop (fun gm t H' => gm = 1 ∧ (∃ G, Takes [] H' G) ∧ (t.length = 193 ∧ t[0]? = some (.slice none 0 0) ∧ t[5]? = some (.slice (some ⟨bm, 0, none⟩) 0 0) ∧ t[6]? = some (.int .i64 0))) _ ⟨rfl, ⟨_, by (exact atks)⟩, rfl, (by first | rfl | exact congrArg some (congrArg (Value.int _) (by omega)) | exact congrArg some (congrArg (fun n => Value.slice _ n _) (by omega)) | (congr 2 <;> omega)), (by first | rfl | exact congrArg some (congrArg (Value.int _) (by omega)) | exact congrArg some (congrArg (fun n => Value.slice _ n _) (by omega)) | (congr 2 <;> omega)), (by first | rfl | exact congrArg some (congrArg (Value.int _) (by omega)) | exact congrArg some (congrArg (fun n => Value.slice _ n _) (by omega)) | (congr 2 <;> omega))⟩ ?_
  rintro gm t H' ⟨rfl, ⟨G, hp⟩, hlen, e0, e5, e6⟩
  revert e0 e5 e6; revert t; refine all_len (n := 193) ?_; iterate 193 intro uu'
  intro e0 e5 e6; cases e0; cases e5; cases e6
  refine sw_takeG hp ?_
  clear hp
  repeat' (first | (refine aw0m ?_) | (refine ap2 ?_ ?_ <;> first | exact True.intro | intro h) | (refine aw1m ?_) | (refine abx ?_; intro bb) | (refine abz ?_; intro bz) | (refine ahv ?_; intro v' hv') | (refine aac ?_; intro ac cc) | (refine aw2 ?_) | (refine ap4 ?_ ?_ <;> first | exact True.intro | intro h) | (with_reducible refine tr_two ?_ ?_))
  refine sw_loop (fun gm t H' => gm = 1 ∧ (∃ G, Takes [] H' G) ∧ (t.length = 193 ∧ t[0]? = some (.slice none 0 0) ∧ t[5]? = some (.slice (some ⟨bm, 0, none⟩) 0 0) ∧ t[9]? = some (.int .i64 0))) _ ⟨rfl, ⟨_, by (exact atks)⟩, rfl, (by first | rfl | exact congrArg some (congrArg (Value.int _) (by omega)) | exact congrArg some (congrArg (fun n => Value.slice _ n _) (by omega)) | (congr 2 <;> omega)), (by first | rfl | exact congrArg some (congrArg (Value.int _) (by omega)) | exact congrArg some (congrArg (fun n => Value.slice _ n _) (by omega)) | (congr 2 <;> omega)), (by first | rfl | exact congrArg some (congrArg (Value.int _) (by omega)) | exact congrArg some (congrArg (fun n => Value.slice _ n _) (by omega)) | (congr 2 <;> omega))⟩ ?_
  rintro gm t H' ⟨rfl, ⟨G, hp⟩, hlen, e0, e5, e9⟩
  revert e0 e5 e9; revert t; refine all_len (n := 193) ?_; iterate 193 intro uu'
  intro e0 e5 e9; cases e0; cases e5; cases e9
  refine sw_takeG hp ?_
  clear hp
  repeat' (first | (refine aw0m ?_) | (refine ap2 ?_ ?_ <;> first | exact True.intro | intro h) | (refine aw1m ?_) | (refine abx ?_; intro bb) | (refine abz ?_; intro bz) | (refine ahv ?_; intro v' hv') | (refine aac ?_; intro ac cc) | (refine aw2 ?_) | (refine ap4 ?_ ?_ <;> first | exact True.intro | intro h) | (with_reducible refine tr_two ?_ ?_))
  refine sw_loop (fun gm t H' => gm = 1 ∧ (∃ G, Takes [] H' G) ∧ (t.length = 193 ∧ t[0]? = some (.slice none 0 0) ∧ t[5]? = some (.slice (some ⟨bm, 0, none⟩) 0 0) ∧ t[11]? = some (.int .i64 0))) _ ⟨rfl, ⟨_, by (exact atks)⟩, rfl, (by first | rfl | exact congrArg some (congrArg (Value.int _) (by omega)) | exact congrArg some (congrArg (fun n => Value.slice _ n _) (by omega)) | (congr 2 <;> omega)), (by first | rfl | exact congrArg some (congrArg (Value.int _) (by omega)) | exact congrArg some (congrArg (fun n => Value.slice _ n _) (by omega)) | (congr 2 <;> omega)), (by first | rfl | exact congrArg some (congrArg (Value.int _) (by omega)) | exact congrArg some (congrArg (fun n => Value.slice _ n _) (by omega)) | (congr 2 <;> omega))⟩ ?_
  rintro gm t H' ⟨rfl, ⟨G, hp⟩, hlen, e0, e5, e11⟩
  revert e0 e5 e11; revert t; refine all_len (n := 193) ?_; iterate 193 intro uu'
  intro e0 e5 e11; cases e0; cases e5; cases e11
  refine sw_takeG hp ?_
  clear hp
  repeat' (first | (refine aw0m ?_) | (refine ap2 ?_ ?_ <;> first | exact True.intro | intro h) | (refine aw1m ?_) | (refine abx ?_; intro bb) | (refine abz ?_; intro bz) | (refine ahv ?_; intro v' hv') | (refine aac ?_; intro ac cc) | (refine aw2 ?_) | (refine ap4 ?_ ?_ <;> first | exact True.intro | intro h) | (with_reducible refine tr_two ?_ ?_))
  refine sw_loop (fun gm t H' => gm = 1 ∧ (∃ G, Takes [] H' G) ∧ (t.length = 193 ∧ t[0]? = some (.slice none 0 0) ∧ t[5]? = some (.slice (some ⟨bm, 0, none⟩) 0 0) ∧ t[14]? = some (.int .i64 0))) _ ⟨rfl, ⟨_, by (exact atks)⟩, rfl, (by first | rfl | exact congrArg some (congrArg (Value.int _) (by omega)) | exact congrArg some (congrArg (fun n => Value.slice _ n _) (by omega)) | (congr 2 <;> omega)), (by first | rfl | exact congrArg some (congrArg (Value.int _) (by omega)) | exact congrArg some (congrArg (fun n => Value.slice _ n _) (by omega)) | (congr 2 <;> omega)), (by first | rfl | exact congrArg some (congrArg (Value.int _) (by omega)) | exact congrArg some (congrArg (fun n => Value.slice _ n _) (by omega)) | (congr 2 <;> omega))⟩ ?_
  rintro gm t H' ⟨rfl, ⟨G, hp⟩, hlen, e0, e5, e14⟩
  revert e0 e5 e14; revert t; refine all_len (n := 193) ?_; iterate 193 intro uu'
  intro e0 e5 e14; cases e0; cases e5; cases e14
  refine sw_takeG hp ?_
  clear hp
  repeat' (first | (refine aw0m ?_) | (refine ap2 ?_ ?_ <;> first | exact True.intro | intro h) | (refine aw1m ?_) | (refine abx ?_; intro bb) | (refine abz ?_; intro bz) | (refine ahv ?_; intro v' hv') | (refine aac ?_; intro ac cc) | (refine aw2 ?_) | (refine ap4 ?_ ?_ <;> first | exact True.intro | intro h) | (with_reducible refine tr_two ?_ ?_))
  ((with_reducible apply fp_ret); exact res_1 rfl rfl)
  exact HR.out _ _ _ [] (by (exact atks)) ⟨rfl, rfl⟩
set_option maxRecDepth 10000 in
set_option maxHeartbeats 1000000 in
theorem flatTruths_nil (r : Hp) : Tri Tryz.prog r 80 [.slice none 0 0] [] fun w H => w = .bool true ∧ H = [] := by
  refine Tri.free2 fun R HR => ?_
  refine fn_of_sw Tryz.func80 rfl _ rfl ?_; simp only [Tryz.ntmps80, List.length_cons, List.length_nil, Nat.reduceAdd, Nat.reduceSub, List.replicate_succ, List.replicate_zero, List.nil_append, List.cons_append]
  repeat' (first | (refine aw0m ?_) | (refine ap2 ?_ ?_ <;> first | exact True.intro | intro h) | (refine aw1m ?_) | (refine abx ?_; intro bb) | (refine abz ?_; intro bz) | (refine ahv ?_; intro v' hv') | (refine aac ?_; intro ac cc) | (refine aw2 ?_) | (refine ap4 ?_ ?_ <;> first | exact True.intro | intro h) | (with_reducible refine tr_two ?_ ?_))
  refine sw_loop (fun gm t H' => gm = 1 ∧ (∃ G, Takes [] H' G) ∧ (t.length = 207 ∧ t[0]? = some (.slice none 0 0) ∧ t[3]? = some (.int .i64 0))) _ ⟨rfl, ⟨[], by (exact atks)⟩, rfl, (by first | rfl | exact congrArg some (congrArg (Value.int _) (by omega)) | exact congrArg some (congrArg (fun n => Value.slice _ n _) (by omega)) | (congr 2 <;> omega)), (by first | rfl | exact congrArg some (congrArg (Value.int _) (by omega)) | exact congrArg some (congrArg (fun n => Value.slice _ n _) (by omega)) | (congr 2 <;> omega))⟩ ?_
  rintro gm t H' ⟨rfl, ⟨G, hp⟩, hlen, e0, e3⟩
  revert e0 e3; revert t; refine all_len (n := 207) ?_; iterate 207 intro uu'
  intro e0 e3; cases e0; cases e3
  refine sw_takeG hp ?_
  clear hp
  repeat' (first | ((with_reducible apply kx_make0 (c := 0)); exact ty_el; exact ty_inf; rfl; rfl; (omega); (omega); intro bm; (refine apk ?_)) | (refine aw0 ?_) | (refine ap2 ?_ ?_ <;> first | exact True.intro | intro h) | (refine aw1 ?_) | (refine abx ?_; intro bb) | (refine abz ?_; intro bz) | (refine ahv ?_; intro v' hv') | (refine aac ?_; intro ac cc) | (refine aw2 ?_) | (refine ap4 ?_ ?_ <;> first | exact True.intro | intro h) | (with_reducible refine tr_two ?_ ?_))
  refine sw_loop (fun gm t H' => gm = 1 ∧ (∃ G, Takes [] H' G) ∧ (t.length = 207 ∧ t[0]? = some (.slice none 0 0) ∧ t[5]? = some (.slice (some ⟨bm, 0, none⟩) 0 0) ∧ t[6]? = some (.int .i64 0))) _ ⟨rfl, ⟨_, by (exact atks)⟩, rfl, (by first | rfl | exact congrArg some (congrArg (Value.int _) (by omega)) | exact congrArg some (congrArg (fun n => Value.slice _ n _) (by omega)) | (congr 2 <;> omega)), (by first | rfl | exact congrArg some (congrArg (Value.int _) (by omega)) | exact congrArg some (congrArg (fun n => Value.slice _ n _) (by omega)) | (congr 2 <;> omega)), (by first | rfl | exact congrArg some (congrArg (Value.int _) (by omega)) | exact congrArg some (congrArg (fun n => Value.slice _ n _) (by omega)) | (congr 2 <;> omega))⟩ ?_
  rintro gm t H' ⟨rfl, ⟨G, hp⟩, hlen, e0, e5, e6⟩
  revert e0 e5 e6; revert t; refine all_len (n := 207) ?_; iterate 207 intro uu'
  intro e0 e5 e6; cases e0; cases e5; cases e6
  refine sw_takeG hp ?_
  clear hp
  repeat' (first | (refine aw0m ?_) | (refine ap2 ?_ ?_ <;> first | exact True.intro | intro h) | (refine aw1m ?_) | (refine abx ?_; intro bb) | (refine abz ?_; intro bz) | (refine ahv ?_; intro v' hv') | (refine aac ?_; intro ac cc) | (refine aw2 ?_) | (refine ap4 ?_ ?_ <;> first | exact True.intro | intro h) | (with_reducible refine tr_two ?_ ?_))
  refine sw_loop (fun gm t H' => gm = 1 ∧ (∃ G, Takes [] H' G) ∧ (t.length = 207 ∧ t[0]? = some (.slice none 0 0) ∧ t[5]? = some (.slice (some ⟨bm, 0, none⟩) 0 0) ∧ t[9]? = some (.int .i64 0))) _ ⟨rfl, ⟨_, by (exact atks)⟩, rfl, (by first | rfl | exact congrArg some (congrArg (Value.int _) (by omega)) | exact congrArg some (congrArg (fun n => Value.slice _ n _) (by omega)) | (congr 2 <;> omega)), (by first | rfl | exact congrArg some (congrArg (Value.int _) (by omega)) | exact congrArg some (congrArg (fun n => Value.slice _ n _) (by omega)) | (congr 2 <;> omega)), (by first | rfl | exact congrArg some (congrArg (Value.int _) (by omega)) | exact congrArg some (congrArg (fun n => Value.slice _ n _) (by omega)) | (congr 2 <;> omega))⟩ ?_
  rintro gm t H' ⟨rfl, ⟨G, hp⟩, hlen, e0, e5, e9⟩
  revert e0 e5 e9; revert t; refine all_len (n := 207) ?_; iterate 207 intro uu'
  intro e0 e5 e9; cases e0; cases e5; cases e9
  refine sw_takeG hp ?_
  clear hp
  repeat' (first | (refine aw0m ?_) | (refine ap2 ?_ ?_ <;> first | exact True.intro | intro h) | (refine aw1m ?_) | (refine abx ?_; intro bb) | (refine abz ?_; intro bz) | (refine ahv ?_; intro v' hv') | (refine aac ?_; intro ac cc) | (refine aw2 ?_) | (refine ap4 ?_ ?_ <;> first | exact True.intro | intro h) | (with_reducible refine tr_two ?_ ?_))
  refine sw_loop (fun gm t H' => gm = 1 ∧ (∃ G, Takes [] H' G) ∧ (t.length = 207 ∧ t[0]? = some (.slice none 0 0) ∧ t[5]? = some (.slice (some ⟨bm, 0, none⟩) 0 0) ∧ t[11]? = some (.int .i64 0))) _ ⟨rfl, ⟨_, by (exact atks)⟩, rfl, (by first | rfl | exact congrArg some (congrArg (Value.int _) (by omega)) | exact congrArg some (congrArg (fun n => Value.slice _ n _) (by omega)) | (congr 2 <;> omega)), (by first | rfl | exact congrArg some (congrArg (Value.int _) (by omega)) | exact congrArg some (congrArg (fun n => Value.slice _ n _) (by omega)) | (congr 2 <;> omega)), (by first | rfl | exact congrArg some (congrArg (Value.int _) (by omega)) | exact congrArg some (congrArg (fun n => Value.slice _ n _) (by omega)) | (congr 2 <;> omega))⟩ ?_
  rintro gm t H' ⟨rfl, ⟨G, hp⟩, hlen, e0, e5, e11⟩
  revert e0 e5 e11; revert t; refine all_len (n := 207) ?_; iterate 207 intro uu'
  intro e0 e5 e11; cases e0; cases e5; cases e11
  refine sw_takeG hp ?_
  clear hp
  repeat' (first | (refine aw0m ?_) | (refine ap2 ?_ ?_ <;> first | exact True.intro | intro h) | (refine aw1m ?_) | (refine abx ?_; intro bb) | (refine abz ?_; intro bz) | (refine ahv ?_; intro v' hv') | (refine aac ?_; intro ac cc) | (refine aw2 ?_) | (refine ap4 ?_ ?_ <;> first | exact True.intro | intro h) | (with_reducible refine tr_two ?_ ?_))
  refine sw_loop (fun gm t H' => gm = 1 ∧ (∃ G, Takes [] H' G) ∧ (t.length = 207 ∧ t[0]? = some (.slice none 0 0) ∧ t[5]? = some (.slice (some ⟨bm, 0, none⟩) 0 0) ∧ t[14]? = some (.int .i64 0))) _ ⟨rfl, ⟨_, by (exact atks)⟩, rfl, (by first | rfl | exact congrArg some (congrArg (Value.int _) (by omega)) | exact congrArg some (congrArg (fun n => Value.slice _ n _) (by omega)) | (congr 2 <;> omega)), (by first | rfl | exact congrArg some (congrArg (Value.int _) (by omega)) | exact congrArg some (congrArg (fun n => Value.slice _ n _) (by omega)) | (congr 2 <;> omega)), (by first | rfl | exact congrArg some (congrArg (Value.int _) (by omega)) | exact congrArg some (congrArg (fun n => Value.slice _ n _) (by omega)) | (congr 2 <;> omega))⟩ ?_
  rintro gm t H' ⟨rfl, ⟨G, hp⟩, hlen, e0, e5, e14⟩
  revert e0 e5 e14; revert t; refine all_len (n := 207) ?_; iterate 207 intro uu'
  intro e0 e5 e14; cases e0; cases e5; cases e14
  refine sw_takeG hp ?_
  clear hp
  repeat' (first | (refine aw0m ?_) | (refine ap2 ?_ ?_ <;> first | exact True.intro | intro h) | (refine aw1m ?_) | (refine abx ?_; intro bb) | (refine abz ?_; intro bz) | (refine ahv ?_; intro v' hv') | (refine aac ?_; intro ac cc) | (refine aw2 ?_) | (refine ap4 ?_ ?_ <;> first | exact True.intro | intro h) | (with_reducible refine tr_two ?_ ?_))
  ((with_reducible apply fp_ret); exact res_1 rfl rfl)
  exact HR.out _ _ _ [] (by (exact atks)) ⟨rfl, rfl⟩
set_option maxRecDepth 10000 in
set_option maxHeartbeats 1000000 in
theorem flatNodes_nil (r : Hp) : Tri Tryz.prog r 81 [.slice none 0 0] [] fun w H => w = .bool true ∧ H = [] := by
  refine Tri.free2 fun R HR => ?_
  refine fn_of_sw Tryz.func81 rfl _ rfl ?_; simp only [Tryz.ntmps81, List.length_cons, List.length_nil, Nat.reduceAdd, Nat.reduceSub, List.replicate_succ, List.replicate_zero, List.nil_append, List.cons_append]
  repeat' (first | (refine aw0m ?_) | (refine ap2 ?_ ?_ <;> first | exact True.intro | intro h) | (refine aw1m ?_) | (refine abx ?_; intro bb) | (refine abz ?_; intro bz) | (refine ahv ?_; intro v' hv') | (refine aac ?_; intro ac cc) | (refine aw2 ?_) | (refine ap4 ?_ ?_ <;> first | exact True.intro | intro h) | (with_reducible refine tr_two ?_ ?_))
  refine sw_loop (fun gm t H' => gm = 1 ∧ (∃ G, Takes [] H' G) ∧ (t.length = 193 ∧ t[0]? = some (.slice none 0 0) ∧ t[3]? = some (.int .i64 0))) _ ⟨rfl, ⟨[], by (exact atks)⟩, rfl, (by first | rfl | exact congrArg some (congrArg (Value.int _) (by omega)) | exact congrArg some (congrArg (fun n => Value.slice _ n _) (by omega)) | (congr 2 <;> omega)), (by first | rfl | exact congrArg some (congrArg (Value.int _) (by omega)) | exact congrArg some (congrArg (fun n => Value.slice _ n _) (by omega)) | (congr 2 <;> omega))⟩ ?_
  rintro gm t H' ⟨rfl, ⟨G, hp⟩, hlen, e0, e3⟩
  revert e0 e3; revert t; refine all_len (n := 193) ?_; iterate 193 intro uu'
  intro e0 e3; cases e0; cases e3
  refine sw_takeG hp ?_
  clear hp
  repeat' (first | ((with_reducible apply kx_make0 (c := 0)); exact ty_el; exact ty_inf; rfl; rfl; (omega); (omega); intro bm; (refine apk ?_)) | (refine aw0 ?_) | (refine ap2 ?_ ?_ <;> first | exact True.intro | intro h) | (refine aw1 ?_) | (refine abx ?_; intro bb) | (refine abz ?_; intro bz) | (refine ahv ?_; intro v' hv') | (refine aac ?_; intro ac cc) | (refine aw2 ?_) | (refine ap4 ?_ ?_ <;> first | exact True.intro | intro h) | (with_reducible refine tr_two ?_ ?_))
  refine sw_loop (fun gm t H' => gm = 1 ∧ (∃ G, Takes [] H' G) ∧ (t.length = 193 ∧ t[0]? = some (.slice none 0 0) ∧ t[5]? = some (.slice (some ⟨bm, 0, none⟩) 0 0) ∧ t[6]? = some (.int .i64 0))) _ ⟨rfl, ⟨_, by (exact atks)⟩, rfl, (by first | rfl | exact congrArg some (congrArg (Value.int _) (by omega)) | exact congrArg some (congrArg (fun n => Value.slice _ n _) (by omega)) | (congr 2 <;> omega)), (by first | rfl | exact congrArg some (congrArg (Value.int _) (by omega)) | exact congrArg some (congrArg (fun n => Value.slice _ n _) (by omega)) | (congr 2 <;> omega)), (by first | rfl | exact congrArg some (congrArg (Value.int _) (by omega)) | exact congrArg some (congrArg (fun n => Value.slice _ n _) (by omega)) | (congr 2 <;> omega))⟩ ?_
  rintro gm t H' ⟨rfl, ⟨G, hp⟩, hlen, e0, e5, e6⟩
  revert e0 e5 e6; revert t; refine all_len (n := 193) ?_; iterate 193 intro uu'
  intro e0 e5 e6; cases e0; cases e5; cases e6
  refine sw_takeG hp ?_
  clear hp
  repeat' (first | (refine aw0m ?_) | (refine ap2 ?_ ?_ <;> first | exact True.intro | intro h) | (refine aw1m ?_) | (refine abx ?_; intro bb) | (refine abz ?_; intro bz) | (refine ahv ?_; intro v' hv') | (refine aac ?_; intro ac cc) | (refine aw2 ?_) | (refine ap4 ?_ ?_ <;> first | exact True.intro | intro h) | (with_reducible refine tr_two ?_ ?_))
  refine sw_loop (fun gm t H' => gm = 1 ∧ (∃ G, Takes [] H' G) ∧ (t.length = 193 ∧ t[0]? = some (.slice none 0 0) ∧ t[5]? = some (.slice (some ⟨bm, 0, none⟩) 0 0) ∧ t[9]? = some (.int .i64 0))) _ ⟨rfl, ⟨_, by (exact atks)⟩, rfl, (by first | rfl | exact congrArg some (congrArg (Value.int _) (by omega)) | exact congrArg some (congrArg (fun n => Value.slice _ n _) (by omega)) | (congr 2 <;> omega)), (by first | rfl | exact congrArg some (congrArg (Value.int _) (by omega)) | exact congrArg some (congrArg (fun n => Value.slice _ n _) (by omega)) | (congr 2 <;> omega)), (by first | rfl | exact congrArg some (congrArg (Value.int _) (by omega)) | exact congrArg some (congrArg (fun n => Value.slice _ n _) (by omega)) | (congr 2 <;> omega))⟩ ?_
  rintro gm t H' ⟨rfl, ⟨G, hp⟩, hlen, e0, e5, e9⟩
  revert e0 e5 e9; revert t; refine all_len (n := 193) ?_; iterate 193 intro uu'
  intro e0 e5 e9; cases e0; cases e5; cases e9
  refine sw_takeG hp ?_
  clear hp
  repeat' (first | (refine aw0m ?_) | (refine ap2 ?_ ?_ <;> first | exact True.intro | intro h) | (refine aw1m ?_) | (refine abx ?_; intro bb) | (refine abz ?_; intro bz) | (refine ahv ?_; intro v' hv') | (refine aac ?_; intro ac cc) | (refine aw2 ?_) | (refine ap4 ?_ ?_ <;> first | exact True.intro | intro h) | (with_reducible refine tr_two ?_ ?_))
  refine sw_loop (fun gm t H' => gm = 1 ∧ (∃ G, Takes [] H' G) ∧ (t.length = 193 ∧ t[0]? = some (.slice none 0 0) ∧ t[5]? = some (.slice (some ⟨bm, 0, none⟩) 0 0) ∧ t[11]? = some (.int .i64 0))) _ ⟨rfl, ⟨_, by (exact atks)⟩, rfl, (by first | rfl | exact congrArg some (congrArg (Value.int _) (by omega)) | exact congrArg some (congrArg (fun n => Value.slice _ n _) (by omega)) | (congr 2 <;> omega)), (by first | rfl | exact congrArg some (congrArg (Value.int _) (by omega)) | exact congrArg some (congrArg (fun n => Value.slice _ n _) (by omega)) | (congr 2 <;> omega)), (by first | rfl | exact congrArg some (congrArg (Value.int _) (by omega)) | exact congrArg some (congrArg (fun n => Value.slice _ n _) (by omega)) | (congr 2 <;> omega))⟩ ?_
  rintro gm t H' ⟨rfl, ⟨G, hp⟩, hlen, e0, e5, e11⟩
  revert e0 e5 e11; revert t; refine all_len (n := 193) ?_; iterate 193 intro uu'
  intro e0 e5 e11; cases e0; cases e5; cases e11
  refine sw_takeG hp ?_
  clear hp
  repeat' (first | (refine aw0m ?_) | (refine ap2 ?_ ?_ <;> first | exact True.intro | intro h) | (refine aw1m ?_) | (refine abx ?_; intro bb) | (refine abz ?_; intro bz) | (refine ahv ?_; intro v' hv') | (refine aac ?_; intro ac cc) | (refine aw2 ?_) | (refine ap4 ?_ ?_ <;> first | exact True.intro | intro h) | (with_reducible refine tr_two ?_ ?_))
  refine sw_loop (fun gm t H' => gm = 1 ∧ (∃ G, Takes [] H' G) ∧ (t.length = 193 ∧ t[0]? = some (.slice none 0 0) ∧ t[5]? = some (.slice (some ⟨bm, 0, none⟩) 0 0) ∧ t[14]? = some (.int .i64 0))) _ ⟨rfl, ⟨_, by (exact atks)⟩, rfl, (by first | rfl | exact congrArg some (congrArg (Value.int _) (by omega)) | exact congrArg some (congrArg (fun n => Value.slice _ n _) (by omega)) | (congr 2 <;> omega)), (by first | rfl | exact congrArg some (congrArg (Value.int _) (by omega)) | exact congrArg some (congrArg (fun n => Value.slice _ n _) (by omega)) | (congr 2 <;> omega)), (by first | rfl | exact congrArg some (congrArg (Value.int _) (by omega)) | exact congrArg some (congrArg (fun n => Value.slice _ n _) (by omega)) | (congr 2 <;> omega))⟩ ?_
  rintro gm t H' ⟨rfl, ⟨G, hp⟩, hlen, e0, e5, e14⟩
  revert e0 e5 e14; revert t; refine all_len (n := 193) ?_; iterate 193 intro uu'
  intro e0 e5 e14; cases e0; cases e5; cases e14
  refine sw_takeG hp ?_
  clear hp
  repeat' (first | (refine aw0m ?_) | (refine ap2 ?_ ?_ <;> first | exact True.intro | intro h) | (refine aw1m ?_) | (refine abx ?_; intro bb) | (refine abz ?_; intro bz) | (refine ahv ?_; intro v' hv') | (refine aac ?_; intro ac cc) | (refine aw2 ?_) | (refine ap4 ?_ ?_ <;> first | exact True.intro | intro h) | (with_reducible refine tr_two ?_ ?_))
  ((with_reducible apply fp_ret); exact res_1 rfl rfl)
  exact HR.out _ _ _ [] (by (exact atks)) ⟨rfl, rfl⟩
set_option maxRecDepth 10000 in
set_option maxHeartbeats 1000000 in
theorem flatInsts_nil (r : Hp) : Tri Tryz.prog r 82 [.slice none 0 0] [] fun w H => w = .bool true ∧ H = [] := by
  refine Tri.free2 fun R HR => ?_
  refine fn_of_sw Tryz.func82 rfl _ rfl ?_; simp only [Tryz.ntmps82, List.length_cons, List.length_nil, Nat.reduceAdd, Nat.reduceSub, List.replicate_succ, List.replicate_zero, List.nil_append, List.cons_append]
  repeat' (first | (refine aw0m ?_) | (refine ap2 ?_ ?_ <;> first | exact True.intro | intro h) | (refine aw1m ?_) | (refine abx ?_; intro bb) | (refine abz ?_; intro bz) | (refine ahv ?_; intro v' hv') | (refine aac ?_; intro ac cc) | (refine aw2 ?_) | (refine ap4 ?_ ?_ <;> first | exact True.intro | intro h) | (with_reducible refine tr_two ?_ ?_))
  refine sw_loop (fun gm t H' => gm = 1 ∧ (∃ G, Takes [] H' G) ∧ (t.length = 193 ∧ t[0]? = some (.slice none 0 0) ∧ t[3]? = some (.int .i64 0))) _ ⟨rfl, ⟨[], by (exact atks)⟩, rfl, (by first | rfl | exact congrArg some (congrArg (Value.int _) (by omega)) | exact congrArg some (congrArg (fun n => Value.slice _ n _) (by omega)) | (congr 2 <;> omega)), (by first | rfl | exact congrArg some (congrArg (Value.int _) (by omega)) | exact congrArg some (congrArg (fun n => Value.slice _ n _) (by omega)) | (congr 2 <;> omega))⟩ ?_
  rintro gm t H' ⟨rfl, ⟨G, hp⟩, hlen, e0, e3⟩
  revert e0 e3; revert t; refine all_len (n := 193) ?_; iterate 193 intro uu'
  intro e0 e3; cases e0; cases e3
  refine sw_takeG hp ?_
  clear hp
  repeat' (first | ((with_reducible apply kx_make0 (c := 0)); exact ty_el; exact ty_inf; rfl; rfl; (omega); (omega); intro bm; (refine apk ?_)) | (refine aw0 ?_) | (refine ap2 ?_ ?_ <;> first | exact True.intro | intro h) | (refine aw1 ?_) | (refine abx ?_; intro bb) | (refine abz ?_; intro bz) | (refine ahv ?_; intro v' hv') | (refine aac ?_; intro ac cc) | (refine aw2 ?_) | (refine ap4 ?_ ?_ <;> first | exact True.intro | intro h) | (with_reducible refine tr_two ?_ ?_))
  refine sw_loop (fun gm t H' => gm = 1 ∧ (∃ G, Takes [] H' G) ∧ (t.length = 193 ∧ t[0]? = some (.slice none 0 0) ∧ t[5]? = some (.slice (some ⟨bm, 0, none⟩) 0 0) ∧ t[6]? = some (.int .i64 0))) _ ⟨rfl, ⟨_, by (exact atks)⟩, rfl, (by first | rfl | exact congrArg some (congrArg (Value.int _) (by omega)) | exact congrArg some (congrArg (fun n => Value.slice _ n _) (by omega)) | (congr 2 <;> omega)), (by first | rfl | exact congrArg some (congrArg (Value.int _) (by omega)) | exact congrArg some (congrArg (fun n => Value.slice _ n _) (by omega)) | (congr 2 <;> omega)), (by first | rfl | exact congrArg some (congrArg (Value.int _) (by omega)) | exact congrArg some (congrArg (fun n => Value.slice _ n _) (by omega)) | (congr 2 <;> omega))⟩ ?_
  rintro gm t H' ⟨rfl, ⟨G, hp⟩, hlen, e0, e5, e6⟩
  revert e0 e5 e6; revert t; refine all_len (n := 193) ?_; iterate 193 intro uu'
  intro e0 e5 e6; cases e0; cases e5; cases e6
  refine sw_takeG hp ?_
  clear hp
  repeat' (first | (refine aw0m ?_) | (refine ap2 ?_ ?_ <;> first | exact True.intro | intro h) | (refine aw1m ?_) | (refine abx ?_; intro bb) | (refine abz ?_; intro bz) | (refine ahv ?_; intro v' hv') | (refine aac ?_; intro ac cc) | (refine aw2 ?_) | (refine ap4 ?_ ?_ <;> first | exact True.intro | intro h) | (with_reducible refine tr_two ?_ ?_))
  refine sw_loop (fun gm t H' => gm = 1 ∧ (∃ G, Takes [] H' G) ∧ (t.length = 193 ∧ t[0]? = some (.slice none 0 0) ∧ t[5]? = some (.slice (some ⟨bm, 0, none⟩) 0 0) ∧ t[9]? = some (.int .i64 0))) _ ⟨rfl, ⟨_, by (exact atks)⟩, rfl, (by first | rfl | exact congrArg some (congrArg (Value.int _) (by omega)) | exact congrArg some (congrArg (fun n => Value.slice _ n _) (by omega)) | (congr 2 <;> omega)), (by first | rfl | exact congrArg some (congrArg (Value.int _) (by omega)) | exact congrArg some (congrArg (fun n => Value.slice _ n _) (by omega)) | (congr 2 <;> omega)), (by first | rfl | exact congrArg some (congrArg (Value.int _) (by omega)) | exact congrArg some (congrArg (fun n => Value.slice _ n _) (by omega)) | (congr 2 <;> omega))⟩ ?_
  rintro gm t H' ⟨rfl, ⟨G, hp⟩, hlen, e0, e5, e9⟩
  revert e0 e5 e9; revert t; refine all_len (n := 193) ?_; iterate 193 intro uu'
  intro e0 e5 e9; cases e0; cases e5; cases e9
  refine sw_takeG hp ?_
  clear hp
  repeat' (first | (refine aw0m ?_) | (refine ap2 ?_ ?_ <;> first | exact True.intro | intro h) | (refine aw1m ?_) | (refine abx ?_; intro bb) | (refine abz ?_; intro bz) | (refine ahv ?_; intro v' hv') | (refine aac ?_; intro ac cc) | (refine aw2 ?_) | (refine ap4 ?_ ?_ <;> first | exact True.intro | intro h) | (with_reducible refine tr_two ?_ ?_))
  refine sw_loop (fun gm t H' => gm = 1 ∧ (∃ G, Takes [] H' G) ∧ (t.length = 193 ∧ t[0]? = some (.slice none 0 0) ∧ t[5]? = some (.slice (some ⟨bm, 0, none⟩) 0 0) ∧ t[11]? = some (.int .i64 0))) _ ⟨rfl, ⟨_, by (exact atks)⟩, rfl, (by first | rfl | exact congrArg some (congrArg (Value.int _) (by omega)) | exact congrArg some (congrArg (fun n => Value.slice _ n _) (by omega)) | (congr 2 <;> omega)), (by first | rfl | exact congrArg some (congrArg (Value.int _) (by omega)) | exact congrArg some (congrArg (fun n => Value.slice _ n _) (by omega)) | (congr 2 <;> omega)), (by first | rfl | exact congrArg some (congrArg (Value.int _) (by omega)) | exact congrArg some (congrArg (fun n => Value.slice _ n _) (by omega)) | (congr 2 <;> omega))⟩ ?_
  rintro gm t H' ⟨rfl, ⟨G, hp⟩, hlen, e0, e5, e11⟩
  revert e0 e5 e11; revert t; refine all_len (n := 193) ?_; iterate 193 intro uu'
  intro e0 e5 e11; cases e0; cases e5; cases e11
  refine sw_takeG hp ?_
  clear hp
  repeat' (first | (refine aw0m ?_) | (refine ap2 ?_ ?_ <;> first | exact True.intro | intro h) | (refine aw1m ?_) | (refine abx ?_; intro bb) | (refine abz ?_; intro bz) | (refine ahv ?_; intro v' hv') | (refine aac ?_; intro ac cc) | (refine aw2 ?_) | (refine ap4 ?_ ?_ <;> first | exact True.intro | intro h) | (with_reducible refine tr_two ?_ ?_))
  refine sw_loop (fun gm t H' => gm = 1 ∧ (∃ G, Takes [] H' G) ∧ (t.length = 193 ∧ t[0]? = some (.slice none 0 0) ∧ t[5]? = some (.slice (some ⟨bm, 0, none⟩) 0 0) ∧ t[14]? = some (.int .i64 0))) _ ⟨rfl, ⟨_, by (exact atks)⟩, rfl, (by first | rfl | exact congrArg some (congrArg (Value.int _) (by omega)) | exact congrArg some (congrArg (fun n => Value.slice _ n _) (by omega)) | (congr 2 <;> omega)), (by first | rfl | exact congrArg some (congrArg (Value.int _) (by omega)) | exact congrArg some (congrArg (fun n => Value.slice _ n _) (by omega)) | (congr 2 <;> omega)), (by first | rfl | exact congrArg some (congrArg (Value.int _) (by omega)) | exact congrArg some (congrArg (fun n => Value.slice _ n _) (by omega)) | (congr 2 <;> omega))⟩ ?_
  rintro gm t H' ⟨rfl, ⟨G, hp⟩, hlen, e0, e5, e14⟩
  revert e0 e5 e14; revert t; refine all_len (n := 193) ?_; iterate 193 intro uu'
  intro e0 e5 e14; cases e0; cases e5; cases e14
  refine sw_takeG hp ?_
  clear hp
  repeat' (first | (refine aw0m ?_) | (refine ap2 ?_ ?_ <;> first | exact True.intro | intro h) | (refine aw1m ?_) | (refine abx ?_; intro bb) | (refine abz ?_; intro bz) | (refine ahv ?_; intro v' hv') | (refine aac ?_; intro ac cc) | (refine aw2 ?_) | (refine ap4 ?_ ?_ <;> first | exact True.intro | intro h) | (with_reducible refine tr_two ?_ ?_))
  ((with_reducible apply fp_ret); exact res_1 rfl rfl)
  exact HR.out _ _ _ [] (by (exact atks)) ⟨rfl, rfl⟩
set_option maxRecDepth 10000 in
set_option maxHeartbeats 1000000 in
theorem flatQueries_nil (r : Hp) : Tri Tryz.prog r 83 [.slice none 0 0] [] fun w H => w = .bool true ∧ H = [] := by
  refine Tri.free2 fun R HR => ?_
  refine fn_of_sw Tryz.func83 rfl _ rfl ?_; simp only [Tryz.ntmps83, List.length_cons, List.length_nil, Nat.reduceAdd, Nat.reduceSub, List.replicate_succ, List.replicate_zero, List.nil_append, List.cons_append]
  repeat' (first | (refine aw0m ?_) | (refine ap2 ?_ ?_ <;> first | exact True.intro | intro h) | (refine aw1m ?_) | (refine abx ?_; intro bb) | (refine abz ?_; intro bz) | (refine ahv ?_; intro v' hv') | (refine aac ?_; intro ac cc) | (refine aw2 ?_) | (refine ap4 ?_ ?_ <;> first | exact True.intro | intro h) | (with_reducible refine tr_two ?_ ?_))
  refine sw_loop (fun gm t H' => gm = 1 ∧ (∃ G, Takes [] H' G) ∧ (t.length = 193 ∧ t[0]? = some (.slice none 0 0) ∧ t[3]? = some (.int .i64 0))) _ ⟨rfl, ⟨[], by (exact atks)⟩, rfl, (by first | rfl | exact congrArg some (congrArg (Value.int _) (by omega)) | exact congrArg some (congrArg (fun n => Value.slice _ n _) (by omega)) | (congr 2 <;> omega)), (by first | rfl | exact congrArg some (congrArg (Value.int _) (by omega)) | exact congrArg some (congrArg (fun n => Value.slice _ n _) (by omega)) | (congr 2 <;> omega))⟩ ?_
  rintro gm t H' ⟨rfl, ⟨G, hp⟩, hlen, e0, e3⟩
  revert e0 e3; revert t; refine all_len (n := 193) ?_; iterate 193 intro uu'
  intro e0 e3; cases e0; cases e3
  refine sw_takeG hp ?_
  clear hp
  repeat' (first | ((with_reducible apply kx_make0 (c := 0)); exact ty_el; exact ty_inf; rfl; rfl; (omega); (omega); intro bm; (refine apk ?_)) | (refine aw0 ?_) | (refine ap2 ?_ ?_ <;> first | exact True.intro | intro h) | (refine aw1 ?_) | (refine abx ?_; intro bb) | (refine abz ?_; intro bz) | (refine ahv ?_; intro v' hv') | (refine aac ?_; intro ac cc) | (refine aw2 ?_) | (refine ap4 ?_ ?_ <;> first | exact True.intro | intro h) | (with_reducible refine tr_two ?_ ?_))
  refine sw_loop (fun gm t H' => gm = 1 ∧ (∃ G, Takes [] H' G) ∧ (t.length = 193 ∧ t[0]? = some (.slice none 0 0) ∧ t[5]? = some (.slice (some ⟨bm, 0, none⟩) 0 0) ∧ t[6]? = some (.int .i64 0))) _ ⟨rfl, ⟨_, by (exact atks)⟩, rfl, (by first | rfl | exact congrArg some (congrArg (Value.int _) (by omega)) | exact congrArg some (congrArg (fun n => Value.slice _ n _) (by omega)) | (congr 2 <;> omega)), (by first | rfl | exact congrArg some (congrArg (Value.int _) (by omega)) | exact congrArg some (congrArg (fun n => Value.slice _ n _) (by omega)) | (congr 2 <;> omega)), (by first | rfl | exact congrArg some (congrArg (Value.int _) (by omega)) | exact congrArg some (congrArg (fun n => Value.slice _ n _) (by omega)) | (congr 2 <;> omega))⟩ ?_
  rintro gm t H' ⟨rfl, ⟨G, hp⟩, hlen, e0, e5, e6⟩
  revert e0 e5 e6; revert t; refine all_len (n := 193) ?_; iterate 193 intro uu'
  intro e0 e5 e6; cases e0; cases e5; cases e6
  refine sw_takeG hp ?_
  clear hp
  repeat' (first | (refine aw0m ?_) | (refine ap2 ?_ ?_ <;> first | exact True.intro | intro h) | (refine aw1m ?_) | (refine abx ?_; intro bb) | (refine abz ?_; intro bz) | (refine ahv ?_; intro v' hv') | (refine aac ?_; intro ac cc) | (refine aw2 ?_) | (refine ap4 ?_ ?_ <;> first | exact True.intro | intro h) | (with_reducible refine tr_two ?_ ?_))
  refine sw_loop (fun gm t H' => gm = 1 ∧ (∃ G, Takes [] H' G) ∧ (t.length = 193 ∧ t[0]? = some (.slice none 0 0) ∧ t[5]? = some (.slice (some ⟨bm, 0, none⟩) 0 0) ∧ t[9]? = some (.int .i64 0))) _ ⟨rfl, ⟨_, by (exact atks)⟩, rfl, (by first | rfl | exact congrArg some (congrArg (Value.int _) (by omega)) | exact congrArg some (congrArg (fun n => Value.slice _ n _) (by omega)) | (congr 2 <;> omega)), (by first | rfl | exact congrArg some (congrArg (Value.int _) (by omega)) | exact congrArg some (congrArg (fun n => Value.slice _ n _) (by omega)) | (congr 2 <;> omega)), (by first | rfl | exact congrArg some (congrArg (Value.int _) (by omega)) | exact congrArg some (congrArg (fun n => Value.slice _ n _) (by omega)) | (congr 2 <;> omega))⟩ ?_
  rintro gm t H' ⟨rfl, ⟨G, hp⟩, hlen, e0, e5, e9⟩
  revert e0 e5 e9; revert t; refine all_len (n := 193) ?_; iterate 193 intro uu'
  intro e0 e5 e9; cases e0; cases e5; cases e9
  refine sw_takeG hp ?_
  clear hp
  repeat' (first | (refine aw0m ?_) | (refine ap2 ?_ ?_ <;> first | exact True.intro | intro h) | (refine aw1m ?_) | (refine abx ?_; intro bb) | (refine abz ?_; intro bz) | (refine ahv ?_; intro v' hv') | (refine aac ?_; intro ac cc) | (refine aw2 ?_) | (refine ap4 ?_ ?_ <;> first | exact True.intro | intro h) | (with_reducible refine tr_two ?_ ?_))
  refine sw_loop (fun gm t H' => gm = 1 ∧ (∃ G, Takes [] H' G) ∧ (t.length = 193 ∧ t[0]? = some (.slice none 0 0) ∧ t[5]? = some (.slice (some ⟨bm, 0, none⟩) 0 0) ∧ t[11]? = some (.int .i64 0))) _ ⟨rfl, ⟨_, by (exact atks)⟩, rfl, (by first | rfl | exact congrArg some (congrArg (Value.int _) (by omega)) | exact congrArg some (congrArg (fun n => Value.slice _ n _) (by omega)) | (congr 2 <;> omega)), (by first | rfl | exact congrArg some (congrArg (Value.int _) (by omega)) | exact congrArg some (congrArg (fun n => Value.slice _ n _) (by omega)) | (congr 2 <;> omega)), (by first | rfl | exact congrArg some (congrArg (Value.int _) (by omega)) | exact congrArg some (congrArg (fun n => Value.slice _ n _) (by omega)) | (congr 2 <;> omega))⟩ ?_
  rintro gm t H' ⟨rfl, ⟨G, hp⟩, hlen, e0, e5, e11⟩
  revert e0 e5 e11; revert t; refine all_len (n := 193) ?_; iterate 193 intro uu'
  intro e0 e5 e11; cases e0; cases e5; cases e11
  refine sw_takeG hp ?_
  clear hp
  repeat' (first | (refine aw0m ?_) | (refine ap2 ?_ ?_ <;> first | exact True.intro | intro h) | (refine aw1m ?_) | (refine abx ?_; intro bb) | (refine abz ?_; intro bz) | (refine ahv ?_; intro v' hv') | (refine aac ?_; intro ac cc) | (refine aw2 ?_) | (refine ap4 ?_ ?_ <;> first | exact True.intro | intro h) | (with_reducible refine tr_two ?_ ?_))
  refine sw_loop (fun gm t H' => gm = 1 ∧ (∃ G, Takes [] H' G) ∧ (t.length = 193 ∧ t[0]? = some (.slice none 0 0) ∧ t[5]? = some (.slice (some ⟨bm, 0, none⟩) 0 0) ∧ t[14]? = some (.int .i64 0))) _ ⟨rfl, ⟨_, by (exact atks)⟩, rfl, (by first | rfl | exact congrArg some (congrArg (Value.int _) (by omega)) | exact congrArg some (congrArg (fun n => Value.slice _ n _) (by omega)) | (congr 2 <;> omega)), (by first | rfl | exact congrArg some (congrArg (Value.int _) (by omega)) | exact congrArg some (congrArg (fun n => Value.slice _ n _) (by omega)) | (congr 2 <;> omega)), (by first | rfl | exact congrArg some (congrArg (Value.int _) (by omega)) | exact congrArg some (congrArg (fun n => Value.slice _ n _) (by omega)) | (congr 2 <;> omega))⟩ ?_
  rintro gm t H' ⟨rfl, ⟨G, hp⟩, hlen, e0, e5, e14⟩
  revert e0 e5 e14; revert t; refine all_len (n := 193) ?_; iterate 193 intro uu'
  intro e0 e5 e14; cases e0; cases e5; cases e14
  refine sw_takeG hp ?_
  clear hp
  repeat' (first | (refine aw0m ?_) | (refine ap2 ?_ ?_ <;> first | exact True.intro | intro h) | (refine aw1m ?_) | (refine abx ?_; intro bb) | (refine abz ?_; intro bz) | (refine ahv ?_; intro v' hv') | (refine aac ?_; intro ac cc) | (refine aw2 ?_) | (refine ap4 ?_ ?_ <;> first | exact True.intro | intro h) | (with_reducible refine tr_two ?_ ?_))
  ((with_reducible apply fp_ret); exact res_1 rfl rfl)
  exact HR.out _ _ _ [] (by (exact atks)) ⟨rfl, rfl⟩
set_option maxRecDepth 10000 in
set_option maxHeartbeats 1000000 in
theorem flatFiles_nil (r : Hp) : Tri Tryz.prog r 84 [.slice none 0 0] [] fun w H => w = .bool true ∧ H = [] := by
  refine Tri.free2 fun R HR => ?_
  refine fn_of_sw Tryz.func84 rfl _ rfl ?_; simp only [Tryz.ntmps84, List.length_cons, List.length_nil, Nat.reduceAdd, Nat.reduceSub, List.replicate_succ, List.replicate_zero, List.nil_append, List.cons_append]
  repeat' (first | (refine aw0m ?_) | (refine ap2 ?_ ?_ <;> first | exact True.intro | intro h) | (refine aw1m ?_) | (refine abx ?_; intro bb) | (refine abz ?_; intro bz) | (refine ahv ?_; intro v' hv') | (refine aac ?_; intro ac cc) | (refine aw2 ?_) | (refine ap4 ?_ ?_ <;> first | exact True.intro | intro h) | (with_reducible refine tr_two ?_ ?_))
  refine sw_loop (fun gm t H' => gm = 1 ∧ (∃ G, Takes [] H' G) ∧ (t.length = 193 ∧ t[0]? = some (.slice none 0 0) ∧ t[3]? = some (.int .i64 0))) _ ⟨rfl, ⟨[], by (exact atks)⟩, rfl, (by first | rfl | exact congrArg some (congrArg (Value.int _) (by omega)) | exact congrArg some (congrArg (fun n => Value.slice _ n _) (by omega)) | (congr 2 <;> omega)), (by first | rfl | exact congrArg some (congrArg (Value.int _) (by omega)) | exact congrArg some (congrArg (fun n => Value.slice _ n _) (by omega)) | (congr 2 <;> omega))⟩ ?_
  rintro gm t H' ⟨rfl, ⟨G, hp⟩, hlen, e0, e3⟩
  revert e0 e3; revert t; refine all_len (n := 193) ?_; iterate 193 intro uu'
  intro e0 e3; cases e0; cases e3
  refine sw_takeG hp ?_
  clear hp
  repeat' (first | ((with_reducible apply kx_make0 (c := 0)); exact ty_el; exact ty_inf; rfl; rfl; (omega); (omega); intro bm; (refine apk ?_)) | (refine aw0 ?_) | (refine ap2 ?_ ?_ <;> first | exact True.intro | intro h) | (refine aw1 ?_) | (refine abx ?_; intro bb) | (refine abz ?_; intro bz) | (refine ahv ?_; intro v' hv') | (refine aac ?_; intro ac cc) | (refine aw2 ?_) | (refine ap4 ?_ ?_ <;> first | exact True.intro | intro h) | (with_reducible refine tr_two ?_ ?_))
  refine sw_loop (fun gm t H' => gm = 1 ∧ (∃ G, Takes [] H' G) ∧ (t.length = 193 ∧ t[0]? = some (.slice none 0 0) ∧ t[5]? = some (.slice (some ⟨bm, 0, none⟩) 0 0) ∧ t[6]? = some (.int .i64 0))) _ ⟨rfl, ⟨_, by (exact atks)⟩, rfl, (by first | rfl | exact congrArg some (congrArg (Value.int _) (by omega)) | exact congrArg some (congrArg (fun n => Value.slice _ n _) (by omega)) | (congr 2 <;> omega)), (by first | rfl | exact congrArg some (congrArg (Value.int _) (by omega)) | exact congrArg some (congrArg (fun n => Value.slice _ n _) (by omega)) | (congr 2 <;> omega)), (by first | rfl | exact congrArg some (congrArg (Value.int _) (by omega)) | exact congrArg some (congrArg (fun n => Value.slice _ n _) (by omega)) | (congr 2 <;> omega))⟩ ?_
  rintro gm t H' ⟨rfl, ⟨G, hp⟩, hlen, e0, e5, e6⟩
  revert e0 e5 e6; revert t; refine all_len (n := 193) ?_; iterate 193 intro uu'
  intro e0 e5 e6; cases e0; cases e5; cases e6
  refine sw_takeG hp ?_
  clear hp
  repeat' (first | (refine aw0m ?_) | (refine ap2 ?_ ?_ <;> first | exact True.intro | intro h) | (refine aw1m ?_) | (refine abx ?_; intro bb) | (refine abz ?_; intro bz) | (refine ahv ?_; intro v' hv') | (refine aac ?_; intro ac cc) | (refine aw2 ?_) | (refine ap4 ?_ ?_ <;> first | exact True.intro | intro h) | (with_reducible refine tr_two ?_ ?_))
  refine sw_loop (fun gm t H' => gm = 1 ∧ (∃ G, Takes [] H' G) ∧ (t.length = 193 ∧ t[0]? = some (.slice none 0 0) ∧ t[5]? = some (.slice (some ⟨bm, 0, none⟩) 0 0) ∧ t[9]? = some (.int .i64 0))) _ ⟨rfl, ⟨_, by (exact atks)⟩, rfl, (by first | rfl | exact congrArg some (congrArg (Value.int _) (by omega)) | exact congrArg some (congrArg (fun n => Value.slice _ n _) (by omega)) | (congr 2 <;> omega)), (by first | rfl | exact congrArg some (congrArg (Value.int _) (by omega)) | exact congrArg some (congrArg (fun n => Value.slice _ n _) (by omega)) | (congr 2 <;> omega)), (by first | rfl | exact congrArg some (congrArg (Value.int _) (by omega)) | exact congrArg some (congrArg (fun n => Value.slice _ n _) (by omega)) | (congr 2 <;> omega))⟩ ?_
  rintro gm t H' ⟨rfl, ⟨G, hp⟩, hlen, e0, e5, e9⟩
  revert e0 e5 e9; revert t; refine all_len (n := 193) ?_; iterate 193 intro uu'
  intro e0 e5 e9; cases e0; cases e5; cases e9
  refine sw_takeG hp ?_
  clear hp
  repeat' (first | (refine aw0m ?_) | (refine ap2 ?_ ?_ <;> first | exact True.intro | intro h) | (refine aw1m ?_) | (refine abx ?_; intro bb) | (refine abz ?_; intro bz) | (refine ahv ?_; intro v' hv') | (refine aac ?_; intro ac cc) | (refine aw2 ?_) | (refine ap4 ?_ ?_ <;> first | exact True.intro | intro h) | (with_reducible refine tr_two ?_ ?_))
  refine sw_loop (fun gm t H' => gm = 1 ∧ (∃ G, Takes [] H' G) ∧ (t.length = 193 ∧ t[0]? = some (.slice none 0 0) ∧ t[5]? = some (.slice (some ⟨bm, 0, none⟩) 0 0) ∧ t[11]? = some (.int .i64 0))) _ ⟨rfl, ⟨_, by (exact atks)⟩, rfl, (by first | rfl | exact congrArg some (congrArg (Value.int _) (by omega)) | exact congrArg some (congrArg (fun n => Value.slice _ n _) (by omega)) | (congr 2 <;> omega)), (by first | rfl | exact congrArg some (congrArg (Value.int _) (by omega)) | exact congrArg some (congrArg (fun n => Value.slice _ n _) (by omega)) | (congr 2 <;> omega)), (by first | rfl | exact congrArg some (congrArg (Value.int _) (by omega)) | exact congrArg some (congrArg (fun n => Value.slice _ n _) (by omega)) | (congr 2 <;> omega))⟩ ?_
  rintro gm t H' ⟨rfl, ⟨G, hp⟩, hlen, e0, e5, e11⟩
  revert e0 e5 e11; revert t; refine all_len (n := 193) ?_; iterate 193 intro uu'
  intro e0 e5 e11; cases e0; cases e5; cases e11
  refine sw_takeG hp ?_
  clear hp
  repeat' (first | (refine aw0m ?_) | (refine ap2 ?_ ?_ <;> first | exact True.intro | intro h) | (refine aw1m ?_) | (refine abx ?_; intro bb) | (refine abz ?_; intro bz) | (refine ahv ?_; intro v' hv') | (refine aac ?_; intro ac cc) | (refine aw2 ?_) | (refine ap4 ?_ ?_ <;> first | exact True.intro | intro h) | (with_reducible refine tr_two ?_ ?_))
  refine sw_loop (fun gm t H' => gm = 1 ∧ (∃ G, Takes [] H' G) ∧ (t.length = 193 ∧ t[0]? = some (.slice none 0 0) ∧ t[5]? = some (.slice (some ⟨bm, 0, none⟩) 0 0) ∧ t[14]? = some (.int .i64 0))) _ ⟨rfl, ⟨_, by (exact atks)⟩, rfl, (by first | rfl | exact congrArg some (congrArg (Value.int _) (by omega)) | exact congrArg some (congrArg (fun n => Value.slice _ n _) (by omega)) | (congr 2 <;> omega)), (by first | rfl | exact congrArg some (congrArg (Value.int _) (by omega)) | exact congrArg some (congrArg (fun n => Value.slice _ n _) (by omega)) | (congr 2 <;> omega)), (by first | rfl | exact congrArg some (congrArg (Value.int _) (by omega)) | exact congrArg some (congrArg (fun n => Value.slice _ n _) (by omega)) | (congr 2 <;> omega))⟩ ?_
  rintro gm t H' ⟨rfl, ⟨G, hp⟩, hlen, e0, e5, e14⟩
  revert e0 e5 e14; revert t; refine all_len (n := 193) ?_; iterate 193 intro uu'
  intro e0 e5 e14; cases e0; cases e5; cases e14
  refine sw_takeG hp ?_
  clear hp
  repeat' (first | (refine aw0m ?_) | (refine ap2 ?_ ?_ <;> first | exact True.intro | intro h) | (refine aw1m ?_) | (refine abx ?_; intro bb) | (refine abz ?_; intro bz) | (refine ahv ?_; intro v' hv') | (refine aac ?_; intro ac cc) | (refine aw2 ?_) | (refine ap4 ?_ ?_ <;> first | exact True.intro | intro h) | (with_reducible refine tr_two ?_ ?_))
  ((with_reducible apply fp_ret); exact res_1 rfl rfl)
  exact HR.out _ _ _ [] (by (exact atks)) ⟨rfl, rfl⟩
set_option maxRecDepth 10000 in
set_option maxHeartbeats 1000000 in
theorem flatDocs_nil (r : Hp) : Tri Tryz.prog r 85 [.slice none 0 0] [] fun w H => w = .bool true ∧ H = [] := by
  refine Tri.free2 fun R HR => ?_
  refine fn_of_sw Tryz.func85 rfl _ rfl ?_; simp only [Tryz.ntmps85, List.length_cons, List.length_nil, Nat.reduceAdd, Nat.reduceSub, List.replicate_succ, List.replicate_zero, List.nil_append, List.cons_append]
  repeat' (first | (refine aw0m ?_) | (refine ap2 ?_ ?_ <;> first | exact True.intro | intro h) | (refine aw1m ?_) | (refine abx ?_; intro bb) | (refine abz ?_; intro bz) | (refine ahv ?_; intro v' hv') | (refine aac ?_; intro ac cc) | (refine aw2 ?_) | (refine ap4 ?_ ?_ <;> first | exact True.intro | intro h) | (with_reducible refine tr_two ?_ ?_))
  refine sw_loop (fun gm t H' => gm = 1 ∧ (∃ G, Takes [] H' G) ∧ (t.length = 193 ∧ t[0]? = some (.slice none 0 0) ∧ t[3]? = some (.int .i64 0))) _ ⟨rfl, ⟨[], by (exact atks)⟩, rfl, (by first | rfl | exact congrArg some (congrArg (Value.int _) (by omega)) | exact congrArg some (congrArg (fun n => Value.slice _ n _) (by omega)) | (congr 2 <;> omega)), (by first | rfl | exact congrArg some (congrArg (Value.int _) (by omega)) | exact congrArg some (congrArg (fun n => Value.slice _ n _) (by omega)) | (congr 2 <;> omega))⟩ ?_
  rintro gm t H' ⟨rfl, ⟨G, hp⟩, hlen, e0, e3⟩
  revert e0 e3; revert t; refine all_len (n := 193) ?_; iterate 193 intro uu'
  intro e0 e3; cases e0; cases e3
  refine sw_takeG hp ?_
  clear hp
  repeat' (first | ((with_reducible apply kx_make0 (c := 0)); exact ty_el; exact ty_inf; rfl; rfl; (omega); (omega); intro bm; (refine apk ?_)) | (refine aw0 ?_) | (refine ap2 ?_ ?_ <;> first | exact True.intro | intro h) | (refine aw1 ?_) | (refine abx ?_; intro bb) | (refine abz ?_; intro bz) | (refine ahv ?_; intro v' hv') | (refine aac ?_; intro ac cc) | (refine aw2 ?_) | (refine ap4 ?_ ?_ <;> first | exact True.intro | intro h) | (with_reducible refine tr_two ?_ ?_))
  refine sw_loop (fun gm t H' => gm = 1 ∧ (∃ G, Takes [] H' G) ∧ (t.length = 193 ∧ t[0]? = some (.slice none 0 0) ∧ t[5]? = some (.slice (some ⟨bm, 0, none⟩) 0 0) ∧ t[6]? = some (.int .i64 0))) _ ⟨rfl, ⟨_, by (exact atks)⟩, rfl, (by first | rfl | exact congrArg some (congrArg (Value.int _) (by omega)) | exact congrArg some (congrArg (fun n => Value.slice _ n _) (by omega)) | (congr 2 <;> omega)), (by first | rfl | exact congrArg some (congrArg (Value.int _) (by omega)) | exact congrArg some (congrArg (fun n => Value.slice _ n _) (by omega)) | (congr 2 <;> omega)), (by first | rfl | exact congrArg some (congrArg (Value.int _) (by omega)) | exact congrArg some (congrArg (fun n => Value.slice _ n _) (by omega)) | (congr 2 <;> omega))⟩ ?_
  rintro gm t H' ⟨rfl, ⟨G, hp⟩, hlen, e0, e5, e6⟩
  revert e0 e5 e6; revert t; refine all_len (n := 193) ?_; iterate 193 intro uu'
  intro e0 e5 e6; cases e0; cases e5; cases e6
  refine sw_takeG hp ?_
  clear hp
  repeat' (first | (refine aw0m ?_) | (refine ap2 ?_ ?_ <;> first | exact True.intro | intro h) | (refine aw1m ?_) | (refine abx ?_; intro bb) | (refine abz ?_; intro bz) | (refine ahv ?_; intro v' hv') | (refine aac ?_; intro ac cc) | (refine aw2 ?_) | (refine ap4 ?_ ?_ <;> first | exact True.intro | intro h) | (with_reducible refine tr_two ?_ ?_))
  refine sw_loop (fun gm t H' => gm = 1 ∧ (∃ G, Takes [] H' G) ∧ (t.length = 193 ∧ t[0]? = some (.slice none 0 0) ∧ t[5]? = some (.slice (some ⟨bm, 0, none⟩) 0 0) ∧ t[9]? = some (.int .i64 0))) _ ⟨rfl, ⟨_, by (exact atks)⟩, rfl, (by first | rfl | exact congrArg some (congrArg (Value.int _) (by omega)) | exact congrArg some (congrArg (fun n => Value.slice _ n _) (by omega)) | (congr 2 <;> omega)), (by first | rfl | exact congrArg some (congrArg (Value.int _) (by omega)) | exact congrArg some (congrArg (fun n => Value.slice _ n _) (by omega)) | (congr 2 <;> omega)), (by first | rfl | exact congrArg some (congrArg (Value.int _) (by omega)) | exact congrArg some (congrArg (fun n => Value.slice _ n _) (by omega)) | (congr 2 <;> omega))⟩ ?_
  rintro gm t H' ⟨rfl, ⟨G, hp⟩, hlen, e0, e5, e9⟩
  revert e0 e5 e9; revert t; refine all_len (n := 193) ?_; iterate 193 intro uu'
  intro e0 e5 e9; cases e0; cases e5; cases e9
  refine sw_takeG hp ?_
  clear hp
  repeat' (first | (refine aw0m ?_) | (refine ap2 ?_ ?_ <;> first | exact True.intro | intro h) | (refine aw1m ?_) | (refine abx ?_; intro bb) | (refine abz ?_; intro bz) | (refine ahv ?_; intro v' hv') | (refine aac ?_; intro ac cc) | (refine aw2 ?_) | (refine ap4 ?_ ?_ <;> first | exact True.intro | intro h) | (with_reducible refine tr_two ?_ ?_))
  refine sw_loop (fun gm t H' => gm = 1 ∧ (∃ G, Takes [] H' G) ∧ (t.length = 193 ∧ t[0]? = some (.slice none 0 0) ∧ t[5]? = some (.slice (some ⟨bm, 0, none⟩) 0 0) ∧ t[11]? = some (.int .i64 0))) _ ⟨rfl, ⟨_, by (exact atks)⟩, rfl, (by first | rfl | exact congrArg some (congrArg (Value.int _) (by omega)) | exact congrArg some (congrArg (fun n => Value.slice _ n _) (by omega)) | (congr 2 <;> omega)), (by first | rfl | exact congrArg some (congrArg (Value.int _) (by omega)) | exact congrArg some (congrArg (fun n => Value.slice _ n _) (by omega)) | (congr 2 <;> omega)), (by first | rfl | exact congrArg some (congrArg (Value.int _) (by omega)) | exact congrArg some (congrArg (fun n => Value.slice _ n _) (by omega)) | (congr 2 <;> omega))⟩ ?_
  rintro gm t H' ⟨rfl, ⟨G, hp⟩, hlen, e0, e5, e11⟩
  revert e0 e5 e11; revert t; refine all_len (n := 193) ?_; iterate 193 intro uu'
  intro e0 e5 e11; cases e0; cases e5; cases e11
  refine sw_takeG hp ?_
  clear hp
  repeat' (first | (refine aw0m ?_) | (refine ap2 ?_ ?_ <;> first | exact True.intro | intro h) | (refine aw1m ?_) | (refine abx ?_; intro bb) | (refine abz ?_; intro bz) | (refine ahv ?_; intro v' hv') | (refine aac ?_; intro ac cc) | (refine aw2 ?_) | (refine ap4 ?_ ?_ <;> first | exact True.intro | intro h) | (with_reducible refine tr_two ?_ ?_))
  refine sw_loop (fun gm t H' => gm = 1 ∧ (∃ G, Takes [] H' G) ∧ (t.length = 193 ∧ t[0]? = some (.slice none 0 0) ∧ t[5]? = some (.slice (some ⟨bm, 0, none⟩) 0 0) ∧ t[14]? = some (.int .i64 0))) _ ⟨rfl, ⟨_, by (exact atks)⟩, rfl, (by first | rfl | exact congrArg some (congrArg (Value.int _) (by omega)) | exact congrArg some (congrArg (fun n => Value.slice _ n _) (by omega)) | (congr 2 <;> omega)), (by first | rfl | exact congrArg some (congrArg (Value.int _) (by omega)) | exact congrArg some (congrArg (fun n => Value.slice _ n _) (by omega)) | (congr 2 <;> omega)), (by first | rfl | exact congrArg some (congrArg (Value.int _) (by omega)) | exact congrArg some (congrArg (fun n => Value.slice _ n _) (by omega)) | (congr 2 <;> omega))⟩ ?_
  rintro gm t H' ⟨rfl, ⟨G, hp⟩, hlen, e0, e5, e14⟩
  revert e0 e5 e14; revert t; refine all_len (n := 193) ?_; iterate 193 intro uu'
  intro e0 e5 e14; cases e0; cases e5; cases e14
  refine sw_takeG hp ?_
  clear hp
  repeat' (first | (refine aw0m ?_) | (refine ap2 ?_ ?_ <;> first | exact True.intro | intro h) | (refine aw1m ?_) | (refine abx ?_; intro bb) | (refine abz ?_; intro bz) | (refine ahv ?_; intro v' hv') | (refine aac ?_; intro ac cc) | (refine aw2 ?_) | (refine ap4 ?_ ?_ <;> first | exact True.intro | intro h) | (with_reducible refine tr_two ?_ ?_))
  ((with_reducible apply fp_ret); exact res_1 rfl rfl)
  exact HR.out _ _ _ [] (by (exact atks)) ⟨rfl, rfl⟩
set_option maxRecDepth 10000 in
set_option maxHeartbeats 1000000 in
theorem flatPlaces_nil (r : Hp) : Tri Tryz.prog r 86 [.slice none 0 0] [] fun w H => w = .bool true ∧ H = [] := by
  refine Tri.free2 fun R HR => ?_
  refine fn_of_sw Tryz.func86 rfl _ rfl ?_; simp only [Tryz.ntmps86, List.length_cons, List.length_nil, Nat.reduceAdd, Nat.reduceSub, List.replicate_succ, List.replicate_zero, List.nil_append, List.cons_append]
  repeat' (first | (refine aw0m ?_) | (refine ap2 ?_ ?_ <;> first | exact True.intro | intro h) | (refine aw1m ?_) | (refine abx ?_; intro bb) | (refine abz ?_; intro bz) | (refine ahv ?_; intro v' hv') | (refine aac ?_; intro ac cc) | (refine aw2 ?_) | (refine ap4 ?_ ?_ <;> first | exact True.intro | intro h) | (with_reducible refine tr_two ?_ ?_))
  refine sw_loop (fun gm t H' => gm = 1 ∧ (∃ G, Takes [] H' G) ∧ (t.length = 193 ∧ t[0]? = some (.slice none 0 0) ∧ t[3]? = some (.int .i64 0))) _ ⟨rfl, ⟨[], by (exact atks)⟩, rfl, (by first | rfl | exact congrArg some (congrArg (Value.int _) (by omega)) | exact congrArg some (congrArg (fun n => Value.slice _ n _) (by omega)) | (congr 2 <;> omega)), (by first | rfl | exact congrArg some (congrArg (Value.int _) (by omega)) | exact congrArg some (congrArg (fun n => Value.slice _ n _) (by omega)) | (congr 2 <;> omega))⟩ ?_
  rintro gm t H' ⟨rfl, ⟨G, hp⟩, hlen, e0, e3⟩
  revert e0 e3; revert t; refine all_len (n := 193) ?_; iterate 193 intro uu'
  intro e0 e3; cases e0; cases e3
  refine sw_takeG hp ?_
  clear hp
  repeat' (first | ((with_reducible apply kx_make0 (c := 0)); exact ty_el; exact ty_inf; rfl; rfl; (omega); (omega); intro bm; (refine apk ?_)) | (refine aw0 ?_) | (refine ap2 ?_ ?_ <;> first | exact True.intro | intro h) | (refine aw1 ?_) | (refine abx ?_; intro bb) | (refine abz ?_; intro bz) | (refine ahv ?_; intro v' hv') | (refine aac ?_; intro ac cc) | (refine aw2 ?_) | (refine ap4 ?_ ?_ <;> first | exact True.intro | intro h) | (with_reducible refine tr_two ?_ ?_))
  refine sw_loop (fun gm t H' => gm = 1 ∧ (∃ G, Takes [] H' G) ∧ (t.length = 193 ∧ t[0]? = some (.slice none 0 0) ∧ t[5]? = some (.slice (some ⟨bm, 0, none⟩) 0 0) ∧ t[6]? = some (.int .i64 0))) _ ⟨rfl, ⟨_, by (exact atks)⟩, rfl, (by first | rfl | exact congrArg some (congrArg (Value.int _) (by omega)) | exact congrArg some (congrArg (fun n => Value.slice _ n _) (by omega)) | (congr 2 <;> omega)), (by first | rfl | exact congrArg some (congrArg (Value.int _) (by omega)) | exact congrArg some (congrArg (fun n => Value.slice _ n _) (by omega)) | (congr 2 <;> omega)), (by first | rfl | exact congrArg some (congrArg (Value.int _) (by omega)) | exact congrArg some (congrArg (fun n => Value.slice _ n _) (by omega)) | (congr 2 <;> omega))⟩ ?_
  rintro gm t H' ⟨rfl, ⟨G, hp⟩, hlen, e0, e5, e6⟩
  revert e0 e5 e6; revert t; refine all_len (n := 193) ?_; iterate 193 intro uu'
  intro e0 e5 e6; cases e0; cases e5; cases e6
  refine sw_takeG hp ?_
  clear hp
  repeat' (first | (refine aw0m ?_) | (refine ap2 ?_ ?_ <;> first | exact True.intro | intro h) | (refine aw1m ?_) | (refine abx ?_; intro bb) | (refine abz ?_; intro bz) | (refine ahv ?_; intro v' hv') | (refine aac ?_; intro ac cc) | (refine aw2 ?_) | (refine ap4 ?_ ?_ <;> first | exact True.intro | intro h) | (with_reducible refine tr_two ?_ ?_))
  refine sw_loop (fun gm t H' => gm = 1 ∧ (∃ G, Takes [] H' G) ∧ (t.length = 193 ∧ t[0]? = some (.slice none 0 0) ∧ t[5]? = some (.slice (some ⟨bm, 0, none⟩) 0 0) ∧ t[9]? = some (.int .i64 0))) _ ⟨rfl, ⟨_, by (exact atks)⟩, rfl, (by first | rfl | exact congrArg some (congrArg (Value.int _) (by omega)) | exact congrArg some (congrArg (fun n => Value.slice _ n _) (by omega)) | (congr 2 <;> omega)), (by first | rfl | exact congrArg some (congrArg (Value.int _) (by omega)) | exact congrArg some (congrArg (fun n => Value.slice _ n _) (by omega)) | (congr 2 <;> omega)), (by first | rfl | exact congrArg some (congrArg (Value.int _) (by omega)) | exact congrArg some (congrArg (fun n => Value.slice _ n _) (by omega)) | (congr 2 <;> omega))⟩ ?_
  rintro gm t H' ⟨rfl, ⟨G, hp⟩, hlen, e0, e5, e9⟩
  revert e0 e5 e9; revert t; refine all_len (n := 193) ?_; iterate 193 intro uu'
  intro e0 e5 e9; cases e0; cases e5; cases e9
  refine sw_takeG hp ?_
  clear hp
  repeat' (first | (refine aw0m ?_) | (refine ap2 ?_ ?_ <;> first | exact True.intro | intro h) | (refine aw1m ?_) | (refine abx ?_; intro bb) | (refine abz ?_; intro bz) | (refine ahv ?_; intro v' hv') | (refine aac ?_; intro ac cc) | (refine aw2 ?_) | (refine ap4 ?_ ?_ <;> first | exact True.intro | intro h) | (with_reducible refine tr_two ?_ ?_))
  refine sw_loop (fun gm t H' => gm = 1 ∧ (∃ G, Takes [] H' G) ∧ (t.length = 193 ∧ t[0]? = some (.slice none 0 0) ∧ t[5]? = some (.slice (some ⟨bm, 0, none⟩) 0 0) ∧ t[11]? = some (.int .i64 0))) _ ⟨rfl, ⟨_, by (exact atks)⟩, rfl, (by first | rfl | exact congrArg some (congrArg (Value.int _) (by omega)) | exact congrArg some (congrArg (fun n => Value.slice _ n _) (by omega)) | (congr 2 <;> omega)), (by first | rfl | exact congrArg some (congrArg (Value.int _) (by omega)) | exact congrArg some (congrArg (fun n => Value.slice _ n _) (by omega)) | (congr 2 <;> omega)), (by first | rfl | exact congrArg some (congrArg (Value.int _) (by omega)) | exact congrArg some (congrArg (fun n => Value.slice _ n _) (by omega)) | (congr 2 <;> omega))⟩ ?_
  rintro gm t H' ⟨rfl, ⟨G, hp⟩, hlen, e0, e5, e11⟩
  revert e0 e5 e11; revert t; refine all_len (n := 193) ?_; iterate 193 intro uu'
  intro e0 e5 e11; cases e0; cases e5; cases e11
  refine sw_takeG hp ?_
  clear hp
  repeat' (first | (refine aw0m ?_) | (refine ap2 ?_ ?_ <;> first | exact True.intro | intro h) | (refine aw1m ?_) | (refine abx ?_; intro bb) | (refine abz ?_; intro bz) | (refine ahv ?_; intro v' hv') | (refine aac ?_; intro ac cc) | (refine aw2 ?_) | (refine ap4 ?_ ?_ <;> first | exact True.intro | intro h) | (with_reducible refine tr_two ?_ ?_))
  refine sw_loop (fun gm t H' => gm = 1 ∧ (∃ G, Takes [] H' G) ∧ (t.length = 193 ∧ t[0]? = some (.slice none 0 0) ∧ t[5]? = some (.slice (some ⟨bm, 0, none⟩) 0 0) ∧ t[14]? = some (.int .i64 0))) _ ⟨rfl, ⟨_, by (exact atks)⟩, rfl, (by first | rfl | exact congrArg some (congrArg (Value.int _) (by omega)) | exact congrArg some (congrArg (fun n => Value.slice _ n _) (by omega)) | (congr 2 <;> omega)), (by first | rfl | exact congrArg some (congrArg (Value.int _) (by omega)) | exact congrArg some (congrArg (fun n => Value.slice _ n _) (by omega)) | (congr 2 <;> omega)), (by first | rfl | exact congrArg some (congrArg (Value.int _) (by omega)) | exact congrArg some (congrArg (fun n => Value.slice _ n _) (by omega)) | (congr 2 <;> omega))⟩ ?_
  rintro gm t H' ⟨rfl, ⟨G, hp⟩, hlen, e0, e5, e14⟩
  revert e0 e5 e14; revert t; refine all_len (n := 193) ?_; iterate 193 intro uu'
  intro e0 e5 e14; cases e0; cases e5; cases e14
  refine sw_takeG hp ?_
  clear hp
  repeat' (first | (refine aw0m ?_) | (refine ap2 ?_ ?_ <;> first | exact True.intro | intro h) | (refine aw1m ?_) | (refine abx ?_; intro bb) | (refine abz ?_; intro bz) | (refine ahv ?_; intro v' hv') | (refine aac ?_; intro ac cc) | (refine aw2 ?_) | (refine ap4 ?_ ?_ <;> first | exact True.intro | intro h) | (with_reducible refine tr_two ?_ ?_))
  ((with_reducible apply fp_ret); exact res_1 rfl rfl)
  exact HR.out _ _ _ [] (by (exact atks)) ⟨rfl, rfl⟩
set_option maxRecDepth 10000 in
set_option maxHeartbeats 1000000 in
theorem flatPostings_nil (r : Hp) : Tri Tryz.prog r 87 [.slice none 0 0] [] fun w H => w = .bool true ∧ H = [] := by
  refine Tri.free2 fun R HR => ?_
  refine fn_of_sw Tryz.func87 rfl _ rfl ?_; simp only [Tryz.ntmps87, List.length_cons, List.length_nil, Nat.reduceAdd, Nat.reduceSub, List.replicate_succ, List.replicate_zero, List.nil_append, List.cons_append]
  repeat' (first | (refine aw0m ?_) | (refine ap2 ?_ ?_ <;> first | exact True.intro | intro h) | (refine aw1m ?_) | (refine abx ?_; intro bb) | (refine abz ?_; intro bz) | (refine ahv ?_; intro v' hv') | (refine aac ?_; intro ac cc) | (refine aw2 ?_) | (refine ap4 ?_ ?_ <;> first | exact True.intro | intro h) | (with_reducible refine tr_two ?_ ?_))
  refine sw_loop (fun gm t H' => gm = 1 ∧ (∃ G, Takes [] H' G) ∧ (t.length = 193 ∧ t[0]? = some (.slice none 0 0) ∧ t[3]? = some (.int .i64 0))) _ ⟨rfl, ⟨[], by (exact atks)⟩, rfl, (by first | rfl | exact congrArg some (congrArg (Value.int _) (by omega)) | exact congrArg some (congrArg (fun n => Value.slice _ n _) (by omega)) | (congr 2 <;> omega)), (by first | rfl | exact congrArg some (congrArg (Value.int _) (by omega)) | exact congrArg some (congrArg (fun n => Value.slice _ n _) (by omega)) | (congr 2 <;> omega))⟩ ?_
  rintro gm t H' ⟨rfl, ⟨G, hp⟩, hlen, e0, e3⟩
  revert e0 e3; revert t; refine all_len (n := 193) ?_; iterate 193 intro uu'
  intro e0 e3; cases e0; cases e3
  refine sw_takeG hp ?_
  clear hp
  repeat' (first | ((with_reducible apply kx_make0 (c := 0)); exact ty_el; exact ty_inf; rfl; rfl; (omega); (omega); intro bm; (refine apk ?_)) | (refine aw0 ?_) | (refine ap2 ?_ ?_ <;> first | exact True.intro | intro h) | (refine aw1 ?_) | (refine abx ?_; intro bb) | (refine abz ?_; intro bz) | (refine ahv ?_; intro v' hv') | (refine aac ?_; intro ac cc) | (refine aw2 ?_) | (refine ap4 ?_ ?_ <;> first | exact True.intro | intro h) | (with_reducible refine tr_two ?_ ?_))
  refine sw_loop (fun gm t H' => gm = 1 ∧ (∃ G, Takes [] H' G) ∧ (t.length = 193 ∧ t[0]? = some (.slice none 0 0) ∧ t[5]? = some (.slice (some ⟨bm, 0, none⟩) 0 0) ∧ t[6]? = some (.int .i64 0))) _ ⟨rfl, ⟨_, by (exact atks)⟩, rfl, (by first | rfl | exact congrArg some (congrArg (Value.int _) (by omega)) | exact congrArg some (congrArg (fun n => Value.slice _ n _) (by omega)) | (congr 2 <;> omega)), (by first | rfl | exact congrArg some (congrArg (Value.int _) (by omega)) | exact congrArg some (congrArg (fun n => Value.slice _ n _) (by omega)) | (congr 2 <;> omega)), (by first | rfl | exact congrArg some (congrArg (Value.int _) (by omega)) | exact congrArg some (congrArg (fun n => Value.slice _ n _) (by omega)) | (congr 2 <;> omega))⟩ ?_
  rintro gm t H' ⟨rfl, ⟨G, hp⟩, hlen, e0, e5, e6⟩
  revert e0 e5 e6; revert t; refine all_len (n := 193) ?_; iterate 193 intro uu'
  intro e0 e5 e6; cases e0; cases e5; cases e6
  refine sw_takeG hp ?_
  clear hp
  repeat' (first | (refine aw0m ?_) | (refine ap2 ?_ ?_ <;> first | exact True.intro | intro h) | (refine aw1m ?_) | (refine abx ?_; intro bb) | (refine abz ?_; intro bz) | (refine ahv ?_; intro v' hv') | (refine aac ?_; intro ac cc) | (refine aw2 ?_) | (refine ap4 ?_ ?_ <;> first | exact True.intro | intro h) | (with_reducible refine tr_two ?_ ?_))
  refine sw_loop (fun gm t H' => gm = 1 ∧ (∃ G, Takes [] H' G) ∧ (t.length = 193 ∧ t[0]? = some (.slice none 0 0) ∧ t[5]? = some (.slice (some ⟨bm, 0, none⟩) 0 0) ∧ t[9]? = some (.int .i64 0))) _ ⟨rfl, ⟨_, by (exact atks)⟩, rfl, (by first | rfl | exact congrArg some (congrArg (Value.int _) (by omega)) | exact congrArg some (congrArg (fun n => Value.slice _ n _) (by omega)) | (congr 2 <;> omega)), (by first | rfl | exact congrArg some (congrArg (Value.int _) (by omega)) | exact congrArg some (congrArg (fun n => Value.slice _ n _) (by omega)) | (congr 2 <;> omega)), (by first | rfl | exact congrArg some (congrArg (Value.int _) (by omega)) | exact congrArg some (congrArg (fun n => Value.slice _ n _) (by omega)) | (congr 2 <;> omega))⟩ ?_
  rintro gm t H' ⟨rfl, ⟨G, hp⟩, hlen, e0, e5, e9⟩
  revert e0 e5 e9; revert t; refine all_len (n := 193) ?_; iterate 193 intro uu'
  intro e0 e5 e9; cases e0; cases e5; cases e9
  refine sw_takeG hp ?_
  clear hp
  repeat' (first | (refine aw0m ?_) | (refine ap2 ?_ ?_ <;> first | exact True.intro | intro h) | (refine aw1m ?_) | (refine abx ?_; intro bb) | (refine abz ?_; intro bz) | (refine ahv ?_; intro v' hv') | (refine aac ?_; intro ac cc) | (refine aw2 ?_) | (refine ap4 ?_ ?_ <;> first | exact True.intro | intro h) | (with_reducible refine tr_two ?_ ?_))
  refine sw_loop (fun gm t H' => gm = 1 ∧ (∃ G, Takes [] H' G) ∧ (t.length = 193 ∧ t[0]? = some (.slice none 0 0) ∧ t[5]? = some (.slice (some ⟨bm, 0, none⟩) 0 0) ∧ t[11]? = some (.int .i64 0))) _ ⟨rfl, ⟨_, by (exact atks)⟩, rfl, (by first | rfl | exact congrArg some (congrArg (Value.int _) (by omega)) | exact congrArg some (congrArg (fun n => Value.slice _ n _) (by omega)) | (congr 2 <;> omega)), (by first | rfl | exact congrArg some (congrArg (Value.int _) (by omega)) | exact congrArg some (congrArg (fun n => Value.slice _ n _) (by omega)) | (congr 2 <;> omega)), (by first | rfl | exact congrArg some (congrArg (Value.int _) (by omega)) | exact congrArg some (congrArg (fun n => Value.slice _ n _) (by omega)) | (congr 2 <;> omega))⟩ ?_
  rintro gm t H' ⟨rfl, ⟨G, hp⟩, hlen, e0, e5, e11⟩
  revert e0 e5 e11; revert t; refine all_len (n := 193) ?_; iterate 193 intro uu'
  intro e0 e5 e11; cases e0; cases e5; cases e11
  refine sw_takeG hp ?_
  clear hp
  repeat' (first | (refine aw0m ?_) | (refine ap2 ?_ ?_ <;> first | exact True.intro | intro h) | (refine aw1m ?_) | (refine abx ?_; intro bb) | (refine abz ?_; intro bz) | (refine ahv ?_; intro v' hv') | (refine aac ?_; intro ac cc) | (refine aw2 ?_) | (refine ap4 ?_ ?_ <;> first | exact True.intro | intro h) | (with_reducible refine tr_two ?_ ?_))
  refine sw_loop (fun gm t H' => gm = 1 ∧ (∃ G, Takes [] H' G) ∧ (t.length = 193 ∧ t[0]? = some (.slice none 0 0) ∧ t[5]? = some (.slice (some ⟨bm, 0, none⟩) 0 0) ∧ t[14]? = some (.int .i64 0))) _ ⟨rfl, ⟨_, by (exact atks)⟩, rfl, (by first | rfl | exact congrArg some (congrArg (Value.int _) (by omega)) | exact congrArg some (congrArg (fun n => Value.slice _ n _) (by omega)) | (congr 2 <;> omega)), (by first | rfl | exact congrArg some (congrArg (Value.int _) (by omega)) | exact congrArg some (congrArg (fun n => Value.slice _ n _) (by omega)) | (congr 2 <;> omega)), (by first | rfl | exact congrArg some (congrArg (Value.int _) (by omega)) | exact congrArg some (congrArg (fun n => Value.slice _ n _) (by omega)) | (congr 2 <;> omega))⟩ ?_
  rintro gm t H' ⟨rfl, ⟨G, hp⟩, hlen, e0, e5, e14⟩
  revert e0 e5 e14; revert t; refine all_len (n := 193) ?_; iterate 193 intro uu'
  intro e0 e5 e14; cases e0; cases e5; cases e14
  refine sw_takeG hp ?_
  clear hp
  repeat' (first | (refine aw0m ?_) | (refine ap2 ?_ ?_ <;> first | exact True.intro | intro h) | (refine aw1m ?_) | (refine abx ?_; intro bb) | (refine abz ?_; intro bz) | (refine ahv ?_; intro v' hv') | (refine aac ?_; intro ac cc) | (refine aw2 ?_) | (refine ap4 ?_ ?_ <;> first | exact True.intro | intro h) | (with_reducible refine tr_two ?_ ?_))
  ((with_reducible apply fp_ret); exact res_1 rfl rfl)
  exact HR.out _ _ _ [] (by (exact atks)) ⟨rfl, rfl⟩
set_option maxRecDepth 10000 in
set_option maxHeartbeats 1000000 in
theorem flatShardRefs_nil (r : Hp) : Tri Tryz.prog r 88 [.slice none 0 0] [] fun w H => w = .bool true ∧ H = [] := by
  refine Tri.free2 fun R HR => ?_
  refine fn_of_sw Tryz.func88 rfl _ rfl ?_; simp only [Tryz.ntmps88, List.length_cons, List.length_nil, Nat.reduceAdd, Nat.reduceSub, List.replicate_succ, List.replicate_zero, List.nil_append, List.cons_append]
  repeat' (first | (refine aw0m ?_) | (refine ap2 ?_ ?_ <;> first | exact True.intro | intro h) | (refine aw1m ?_) | (refine abx ?_; intro bb) | (refine abz ?_; intro bz) | (refine ahv ?_; intro v' hv') | (refine aac ?_; intro ac cc) | (refine aw2 ?_) | (refine ap4 ?_ ?_ <;> first | exact True.intro | intro h) | (with_reducible refine tr_two ?_ ?_))
  refine sw_loop (fun gm t H' => gm = 1 ∧ (∃ G, Takes [] H' G) ∧ (t.length = 193 ∧ t[0]? = some (.slice none 0 0) ∧ t[3]? = some (.int .i64 0))) _ ⟨rfl, ⟨[], by (exact atks)⟩, rfl, (by first | rfl | exact congrArg some (congrArg (Value.int _) (by omega)) | exact congrArg some (congrArg (fun n => Value.slice _ n _) (by omega)) | (congr 2 <;> omega)), (by first | rfl | exact congrArg some (congrArg (Value.int _) (by omega)) | exact congrArg some (congrArg (fun n => Value.slice _ n _) (by omega)) | (congr 2 <;> omega))⟩ ?_
  rintro gm t H' ⟨rfl, ⟨G, hp⟩, hlen, e0, e3⟩
  revert e0 e3; revert t; refine all_len (n := 193) ?_; iterate 193 intro uu'
  intro e0 e3; cases e0; cases e3
  refine sw_takeG hp ?_
  clear hp
  repeat' (first | ((with_reducible apply kx_make0 (c := 0)); exact ty_el; exact ty_inf; rfl; rfl; (omega); (omega); intro bm; (refine apk ?_)) | (refine aw0 ?_) | (refine ap2 ?_ ?_ <;> first | exact True.intro | intro h) | (refine aw1 ?_) | (refine abx ?_; intro bb) | (refine abz ?_; intro bz) | (refine ahv ?_; intro v' hv') | (refine aac ?_; intro ac cc) | (refine aw2 ?_) | (refine ap4 ?_ ?_ <;> first | exact True.intro | intro h) | (with_reducible refine tr_two ?_ ?_))
  refine sw_loop (fun gm t H' => gm = 1 ∧ (∃ G, Takes [] H' G) ∧ (t.length = 193 ∧ t[0]? = some (.slice none 0 0) ∧ t[5]? = some (.slice (some ⟨bm, 0, none⟩) 0 0) ∧ t[6]? = some (.int .i64 0))) _ ⟨rfl, ⟨_, by (exact atks)⟩, rfl, (by first | rfl | exact congrArg some (congrArg (Value.int _) (by omega)) | exact congrArg some (congrArg (fun n => Value.slice _ n _) (by omega)) | (congr 2 <;> omega)), (by first | rfl | exact congrArg some (congrArg (Value.int _) (by omega)) | exact congrArg some (congrArg (fun n => Value.slice _ n _) (by omega)) | (congr 2 <;> omega)), (by first | rfl | exact congrArg some (congrArg (Value.int _) (by omega)) | exact congrArg some (congrArg (fun n => Value.slice _ n _) (by omega)) | (congr 2 <;> omega))⟩ ?_
  rintro gm t H' ⟨rfl, ⟨G, hp⟩, hlen, e0, e5, e6⟩
  revert e0 e5 e6; revert t; refine all_len (n := 193) ?_; iterate 193 intro uu'
  intro e0 e5 e6; cases e0; cases e5; cases e6
  refine sw_takeG hp ?_
  clear hp
  repeat' (first | (refine aw0m ?_) | (refine ap2 ?_ ?_ <;> first | exact True.intro | intro h) | (refine aw1m ?_) | (refine abx ?_; intro bb) | (refine abz ?_; intro bz) | (refine ahv ?_; intro v' hv') | (refine aac ?_; intro ac cc) | (refine aw2 ?_) | (refine ap4 ?_ ?_ <;> first | exact True.intro | intro h) | (with_reducible refine tr_two ?_ ?_))
  refine sw_loop (fun gm t H' => gm = 1 ∧ (∃ G, Takes [] H' G) ∧ (t.length = 193 ∧ t[0]? = some (.slice none 0 0) ∧ t[5]? = some (.slice (some ⟨bm, 0, none⟩) 0 0) ∧ t[9]? = some (.int .i64 0))) _ ⟨rfl, ⟨_, by (exact atks)⟩, rfl, (by first | rfl | exact congrArg some (congrArg (Value.int _) (by omega)) | exact congrArg some (congrArg (fun n => Value.slice _ n _) (by omega)) | (congr 2 <;> omega)), (by first | rfl | exact congrArg some (congrArg (Value.int _) (by omega)) | exact congrArg some (congrArg (fun n => Value.slice _ n _) (by omega)) | (congr 2 <;> omega)), (by first | rfl | exact congrArg some (congrArg (Value.int _) (by omega)) | exact congrArg some (congrArg (fun n => Value.slice _ n _) (by omega)) | (congr 2 <;> omega))⟩ ?_
  rintro gm t H' ⟨rfl, ⟨G, hp⟩, hlen, e0, e5, e9⟩
  revert e0 e5 e9; revert t; refine all_len (n := 193) ?_; iterate 193 intro uu'
  intro e0 e5 e9; cases e0; cases e5; cases e9
  refine sw_takeG hp ?_
  clear hp
  repeat' (first | (refine aw0m ?_) | (refine ap2 ?_ ?_ <;> first | exact True.intro | intro h) | (refine aw1m ?_) | (refine abx ?_; intro bb) | (refine abz ?_; intro bz) | (refine ahv ?_; intro v' hv') | (refine aac ?_; intro ac cc) | (refine aw2 ?_) | (refine ap4 ?_ ?_ <;> first | exact True.intro | intro h) | (with_reducible refine tr_two ?_ ?_))
  refine sw_loop (fun gm t H' => gm = 1 ∧ (∃ G, Takes [] H' G) ∧ (t.length = 193 ∧ t[0]? = some (.slice none 0 0) ∧ t[5]? = some (.slice (some ⟨bm, 0, none⟩) 0 0) ∧ t[11]? = some (.int .i64 0))) _ ⟨rfl, ⟨_, by (exact atks)⟩, rfl, (by first | rfl | exact congrArg some (congrArg (Value.int _) (by omega)) | exact congrArg some (congrArg (fun n => Value.slice _ n _) (by omega)) | (congr 2 <;> omega)), (by first | rfl | exact congrArg some (congrArg (Value.int _) (by omega)) | exact congrArg some (congrArg (fun n => Value.slice _ n _) (by omega)) | (congr 2 <;> omega)), (by first | rfl | exact congrArg some (congrArg (Value.int _) (by omega)) | exact congrArg some (congrArg (fun n => Value.slice _ n _) (by omega)) | (congr 2 <;> omega))⟩ ?_
  rintro gm t H' ⟨rfl, ⟨G, hp⟩, hlen, e0, e5, e11⟩
  revert e0 e5 e11; revert t; refine all_len (n := 193) ?_; iterate 193 intro uu'
  intro e0 e5 e11; cases e0; cases e5; cases e11
  refine sw_takeG hp ?_
  clear hp
  repeat' (first | (refine aw0m ?_) | (refine ap2 ?_ ?_ <;> first | exact True.intro | intro h) | (refine aw1m ?_) | (refine abx ?_; intro bb) | (refine abz ?_; intro bz) | (refine ahv ?_; intro v' hv') | (refine aac ?_; intro ac cc) | (refine aw2 ?_) | (refine ap4 ?_ ?_ <;> first | exact True.intro | intro h) | (with_reducible refine tr_two ?_ ?_))
  refine sw_loop (fun gm t H' => gm = 1 ∧ (∃ G, Takes [] H' G) ∧ (t.length = 193 ∧ t[0]? = some (.slice none 0 0) ∧ t[5]? = some (.slice (some ⟨bm, 0, none⟩) 0 0) ∧ t[14]? = some (.int .i64 0))) _ ⟨rfl, ⟨_, by (exact atks)⟩, rfl, (by first | rfl | exact congrArg some (congrArg (Value.int _) (by omega)) | exact congrArg some (congrArg (fun n => Value.slice _ n _) (by omega)) | (congr 2 <;> omega)), (by first | rfl | exact congrArg some (congrArg (Value.int _) (by omega)) | exact congrArg some (congrArg (fun n => Value.slice _ n _) (by omega)) | (congr 2 <;> omega)), (by first | rfl | exact congrArg some (congrArg (Value.int _) (by omega)) | exact congrArg some (congrArg (fun n => Value.slice _ n _) (by omega)) | (congr 2 <;> omega))⟩ ?_
  rintro gm t H' ⟨rfl, ⟨G, hp⟩, hlen, e0, e5, e14⟩
  revert e0 e5 e14; revert t; refine all_len (n := 193) ?_; iterate 193 intro uu'
  intro e0 e5 e14; cases e0; cases e5; cases e14
  refine sw_takeG hp ?_
  clear hp
  repeat' (first | (refine aw0m ?_) | (refine ap2 ?_ ?_ <;> first | exact True.intro | intro h) | (refine aw1m ?_) | (refine abx ?_; intro bb) | (refine abz ?_; intro bz) | (refine ahv ?_; intro v' hv') | (refine aac ?_; intro ac cc) | (refine aw2 ?_) | (refine ap4 ?_ ?_ <;> first | exact True.intro | intro h) | (with_reducible refine tr_two ?_ ?_))
  ((with_reducible apply fp_ret); exact res_1 rfl rfl)
  exact HR.out _ _ _ [] (by (exact atks)) ⟨rfl, rfl⟩
set_option maxRecDepth 10000 in
set_option maxHeartbeats 1000000 in
theorem flatManifests_nil (r : Hp) : Tri Tryz.prog r 89 [.slice none 0 0] [] fun w H => w = .bool true ∧ H = [] := by
  refine Tri.free2 fun R HR => ?_
  refine fn_of_sw Tryz.func89 rfl _ rfl ?_; simp only [Tryz.ntmps89, List.length_cons, List.length_nil, Nat.reduceAdd, Nat.reduceSub, List.replicate_succ, List.replicate_zero, List.nil_append, List.cons_append]
  repeat' (first | (refine aw0m ?_) | (refine ap2 ?_ ?_ <;> first | exact True.intro | intro h) | (refine aw1m ?_) | (refine abx ?_; intro bb) | (refine abz ?_; intro bz) | (refine ahv ?_; intro v' hv') | (refine aac ?_; intro ac cc) | (refine aw2 ?_) | (refine ap4 ?_ ?_ <;> first | exact True.intro | intro h) | (with_reducible refine tr_two ?_ ?_))
  refine sw_loop (fun gm t H' => gm = 1 ∧ (∃ G, Takes [] H' G) ∧ (t.length = 193 ∧ t[0]? = some (.slice none 0 0) ∧ t[3]? = some (.int .i64 0))) _ ⟨rfl, ⟨[], by (exact atks)⟩, rfl, (by first | rfl | exact congrArg some (congrArg (Value.int _) (by omega)) | exact congrArg some (congrArg (fun n => Value.slice _ n _) (by omega)) | (congr 2 <;> omega)), (by first | rfl | exact congrArg some (congrArg (Value.int _) (by omega)) | exact congrArg some (congrArg (fun n => Value.slice _ n _) (by omega)) | (congr 2 <;> omega))⟩ ?_
  rintro gm t H' ⟨rfl, ⟨G, hp⟩, hlen, e0, e3⟩
  revert e0 e3; revert t; refine all_len (n := 193) ?_; iterate 193 intro uu'
  intro e0 e3; cases e0; cases e3
  refine sw_takeG hp ?_
  clear hp
  repeat' (first | ((with_reducible apply kx_make0 (c := 0)); exact ty_el; exact ty_inf; rfl; rfl; (omega); (omega); intro bm; (refine apk ?_)) | (refine aw0 ?_) | (refine ap2 ?_ ?_ <;> first | exact True.intro | intro h) | (refine aw1 ?_) | (refine abx ?_; intro bb) | (refine abz ?_; intro bz) | (refine ahv ?_; intro v' hv') | (refine aac ?_; intro ac cc) | (refine aw2 ?_) | (refine ap4 ?_ ?_ <;> first | exact True.intro | intro h) | (with_reducible refine tr_two ?_ ?_))
  refine sw_loop (fun gm t H' => gm = 1 ∧ (∃ G, Takes [] H' G) ∧ (t.length = 193 ∧ t[0]? = some (.slice none 0 0) ∧ t[5]? = some (.slice (some ⟨bm, 0, none⟩) 0 0) ∧ t[6]? = some (.int .i64 0))) _ ⟨rfl, ⟨_, by (exact atks)⟩, rfl, (by first | rfl | exact congrArg some (congrArg (Value.int _) (by omega)) | exact congrArg some (congrArg (fun n => Value.slice _ n _) (by omega)) | (congr 2 <;> omega)), (by first | rfl | exact congrArg some (congrArg (Value.int _) (by omega)) | exact congrArg some (congrArg (fun n => Value.slice _ n _) (by omega)) | (congr 2 <;> omega)), (by first | rfl | exact congrArg some (congrArg (Value.int _) (by omega)) | exact congrArg some (congrArg (fun n => Value.slice _ n _) (by omega)) | (congr 2 <;> omega))⟩ ?_
  rintro gm t H' ⟨rfl, ⟨G, hp⟩, hlen, e0, e5, e6⟩
  revert e0 e5 e6; revert t; refine all_len (n := 193) ?_; iterate 193 intro uu'
  intro e0 e5 e6; cases e0; cases e5; cases e6
  refine sw_takeG hp ?_
  clear hp
  repeat' (first | (refine aw0m ?_) | (refine ap2 ?_ ?_ <;> first | exact True.intro | intro h) | (refine aw1m ?_) | (refine abx ?_; intro bb) | (refine abz ?_; intro bz) | (refine ahv ?_; intro v' hv') | (refine aac ?_; intro ac cc) | (refine aw2 ?_) | (refine ap4 ?_ ?_ <;> first | exact True.intro | intro h) | (with_reducible refine tr_two ?_ ?_))
  refine sw_loop (fun gm t H' => gm = 1 ∧ (∃ G, Takes [] H' G) ∧ (t.length = 193 ∧ t[0]? = some (.slice none 0 0) ∧ t[5]? = some (.slice (some ⟨bm, 0, none⟩) 0 0) ∧ t[9]? = some (.int .i64 0))) _ ⟨rfl, ⟨_, by (exact atks)⟩, rfl, (by first | rfl | exact congrArg some (congrArg (Value.int _) (by omega)) | exact congrArg some (congrArg (fun n => Value.slice _ n _) (by omega)) | (congr 2 <;> omega)), (by first | rfl | exact congrArg some (congrArg (Value.int _) (by omega)) | exact congrArg some (congrArg (fun n => Value.slice _ n _) (by omega)) | (congr 2 <;> omega)), (by first | rfl | exact congrArg some (congrArg (Value.int _) (by omega)) | exact congrArg some (congrArg (fun n => Value.slice _ n _) (by omega)) | (congr 2 <;> omega))⟩ ?_
  rintro gm t H' ⟨rfl, ⟨G, hp⟩, hlen, e0, e5, e9⟩
  revert e0 e5 e9; revert t; refine all_len (n := 193) ?_; iterate 193 intro uu'
  intro e0 e5 e9; cases e0; cases e5; cases e9
  refine sw_takeG hp ?_
  clear hp
  repeat' (first | (refine aw0m ?_) | (refine ap2 ?_ ?_ <;> first | exact True.intro | intro h) | (refine aw1m ?_) | (refine abx ?_; intro bb) | (refine abz ?_; intro bz) | (refine ahv ?_; intro v' hv') | (refine aac ?_; intro ac cc) | (refine aw2 ?_) | (refine ap4 ?_ ?_ <;> first | exact True.intro | intro h) | (with_reducible refine tr_two ?_ ?_))
  refine sw_loop (fun gm t H' => gm = 1 ∧ (∃ G, Takes [] H' G) ∧ (t.length = 193 ∧ t[0]? = some (.slice none 0 0) ∧ t[5]? = some (.slice (some ⟨bm, 0, none⟩) 0 0) ∧ t[11]? = some (.int .i64 0))) _ ⟨rfl, ⟨_, by (exact atks)⟩, rfl, (by first | rfl | exact congrArg some (congrArg (Value.int _) (by omega)) | exact congrArg some (congrArg (fun n => Value.slice _ n _) (by omega)) | (congr 2 <;> omega)), (by first | rfl | exact congrArg some (congrArg (Value.int _) (by omega)) | exact congrArg some (congrArg (fun n => Value.slice _ n _) (by omega)) | (congr 2 <;> omega)), (by first | rfl | exact congrArg some (congrArg (Value.int _) (by omega)) | exact congrArg some (congrArg (fun n => Value.slice _ n _) (by omega)) | (congr 2 <;> omega))⟩ ?_
  rintro gm t H' ⟨rfl, ⟨G, hp⟩, hlen, e0, e5, e11⟩
  revert e0 e5 e11; revert t; refine all_len (n := 193) ?_; iterate 193 intro uu'
  intro e0 e5 e11; cases e0; cases e5; cases e11
  refine sw_takeG hp ?_
  clear hp
  repeat' (first | (refine aw0m ?_) | (refine ap2 ?_ ?_ <;> first | exact True.intro | intro h) | (refine aw1m ?_) | (refine abx ?_; intro bb) | (refine abz ?_; intro bz) | (refine ahv ?_; intro v' hv') | (refine aac ?_; intro ac cc) | (refine aw2 ?_) | (refine ap4 ?_ ?_ <;> first | exact True.intro | intro h) | (with_reducible refine tr_two ?_ ?_))
  refine sw_loop (fun gm t H' => gm = 1 ∧ (∃ G, Takes [] H' G) ∧ (t.length = 193 ∧ t[0]? = some (.slice none 0 0) ∧ t[5]? = some (.slice (some ⟨bm, 0, none⟩) 0 0) ∧ t[14]? = some (.int .i64 0))) _ ⟨rfl, ⟨_, by (exact atks)⟩, rfl, (by first | rfl | exact congrArg some (congrArg (Value.int _) (by omega)) | exact congrArg some (congrArg (fun n => Value.slice _ n _) (by omega)) | (congr 2 <;> omega)), (by first | rfl | exact congrArg some (congrArg (Value.int _) (by omega)) | exact congrArg some (congrArg (fun n => Value.slice _ n _) (by omega)) | (congr 2 <;> omega)), (by first | rfl | exact congrArg some (congrArg (Value.int _) (by omega)) | exact congrArg some (congrArg (fun n => Value.slice _ n _) (by omega)) | (congr 2 <;> omega))⟩ ?_
  rintro gm t H' ⟨rfl, ⟨G, hp⟩, hlen, e0, e5, e14⟩
  revert e0 e5 e14; revert t; refine all_len (n := 193) ?_; iterate 193 intro uu'
  intro e0 e5 e14; cases e0; cases e5; cases e14
  refine sw_takeG hp ?_
  clear hp
  repeat' (first | (refine aw0m ?_) | (refine ap2 ?_ ?_ <;> first | exact True.intro | intro h) | (refine aw1m ?_) | (refine abx ?_; intro bb) | (refine abz ?_; intro bz) | (refine ahv ?_; intro v' hv') | (refine aac ?_; intro ac cc) | (refine aw2 ?_) | (refine ap4 ?_ ?_ <;> first | exact True.intro | intro h) | (with_reducible refine tr_two ?_ ?_))
  ((with_reducible apply fp_ret); exact res_1 rfl rfl)
  exact HR.out _ _ _ [] (by (exact atks)) ⟨rfl, rfl⟩
set_option maxRecDepth 10000 in
set_option maxHeartbeats 1000000 in
theorem flatAsks_nil (r : Hp) : Tri Tryz.prog r 90 [.slice none 0 0] [] fun w H => w = .bool true ∧ H = [] := by
  refine Tri.free2 fun R HR => ?_
  refine fn_of_sw Tryz.func90 rfl _ rfl ?_; simp only [Tryz.ntmps90, List.length_cons, List.length_nil, Nat.reduceAdd, Nat.reduceSub, List.replicate_succ, List.replicate_zero, List.nil_append, List.cons_append]
  repeat' (first | (refine aw0m ?_) | (refine ap2 ?_ ?_ <;> first | exact True.intro | intro h) | (refine aw1m ?_) | (refine abx ?_; intro bb) | (refine abz ?_; intro bz) | (refine ahv ?_; intro v' hv') | (refine aac ?_; intro ac cc) | (refine aw2 ?_) | (refine ap4 ?_ ?_ <;> first | exact True.intro | intro h) | (with_reducible refine tr_two ?_ ?_))
  refine sw_loop (fun gm t H' => gm = 1 ∧ (∃ G, Takes [] H' G) ∧ (t.length = 193 ∧ t[0]? = some (.slice none 0 0) ∧ t[3]? = some (.int .i64 0))) _ ⟨rfl, ⟨[], by (exact atks)⟩, rfl, (by first | rfl | exact congrArg some (congrArg (Value.int _) (by omega)) | exact congrArg some (congrArg (fun n => Value.slice _ n _) (by omega)) | (congr 2 <;> omega)), (by first | rfl | exact congrArg some (congrArg (Value.int _) (by omega)) | exact congrArg some (congrArg (fun n => Value.slice _ n _) (by omega)) | (congr 2 <;> omega))⟩ ?_
  rintro gm t H' ⟨rfl, ⟨G, hp⟩, hlen, e0, e3⟩
  revert e0 e3; revert t; refine all_len (n := 193) ?_; iterate 193 intro uu'
  intro e0 e3; cases e0; cases e3
  refine sw_takeG hp ?_
  clear hp
  repeat' (first | ((with_reducible apply kx_make0 (c := 0)); exact ty_el; exact ty_inf; rfl; rfl; (omega); (omega); intro bm; (refine apk ?_)) | (refine aw0 ?_) | (refine ap2 ?_ ?_ <;> first | exact True.intro | intro h) | (refine aw1 ?_) | (refine abx ?_; intro bb) | (refine abz ?_; intro bz) | (refine ahv ?_; intro v' hv') | (refine aac ?_; intro ac cc) | (refine aw2 ?_) | (refine ap4 ?_ ?_ <;> first | exact True.intro | intro h) | (with_reducible refine tr_two ?_ ?_))
  refine sw_loop (fun gm t H' => gm = 1 ∧ (∃ G, Takes [] H' G) ∧ (t.length = 193 ∧ t[0]? = some (.slice none 0 0) ∧ t[5]? = some (.slice (some ⟨bm, 0, none⟩) 0 0) ∧ t[6]? = some (.int .i64 0))) _ ⟨rfl, ⟨_, by (exact atks)⟩, rfl, (by first | rfl | exact congrArg some (congrArg (Value.int _) (by omega)) | exact congrArg some (congrArg (fun n => Value.slice _ n _) (by omega)) | (congr 2 <;> omega)), (by first | rfl | exact congrArg some (congrArg (Value.int _) (by omega)) | exact congrArg some (congrArg (fun n => Value.slice _ n _) (by omega)) | (congr 2 <;> omega)), (by first | rfl | exact congrArg some (congrArg (Value.int _) (by omega)) | exact congrArg some (congrArg (fun n => Value.slice _ n _) (by omega)) | (congr 2 <;> omega))⟩ ?_
  rintro gm t H' ⟨rfl, ⟨G, hp⟩, hlen, e0, e5, e6⟩
  revert e0 e5 e6; revert t; refine all_len (n := 193) ?_; iterate 193 intro uu'
  intro e0 e5 e6; cases e0; cases e5; cases e6
  refine sw_takeG hp ?_
  clear hp
  repeat' (first | (refine aw0m ?_) | (refine ap2 ?_ ?_ <;> first | exact True.intro | intro h) | (refine aw1m ?_) | (refine abx ?_; intro bb) | (refine abz ?_; intro bz) | (refine ahv ?_; intro v' hv') | (refine aac ?_; intro ac cc) | (refine aw2 ?_) | (refine ap4 ?_ ?_ <;> first | exact True.intro | intro h) | (with_reducible refine tr_two ?_ ?_))
  refine sw_loop (fun gm t H' => gm = 1 ∧ (∃ G, Takes [] H' G) ∧ (t.length = 193 ∧ t[0]? = some (.slice none 0 0) ∧ t[5]? = some (.slice (some ⟨bm, 0, none⟩) 0 0) ∧ t[9]? = some (.int .i64 0))) _ ⟨rfl, ⟨_, by (exact atks)⟩, rfl, (by first | rfl | exact congrArg some (congrArg (Value.int _) (by omega)) | exact congrArg some (congrArg (fun n => Value.slice _ n _) (by omega)) | (congr 2 <;> omega)), (by first | rfl | exact congrArg some (congrArg (Value.int _) (by omega)) | exact congrArg some (congrArg (fun n => Value.slice _ n _) (by omega)) | (congr 2 <;> omega)), (by first | rfl | exact congrArg some (congrArg (Value.int _) (by omega)) | exact congrArg some (congrArg (fun n => Value.slice _ n _) (by omega)) | (congr 2 <;> omega))⟩ ?_
  rintro gm t H' ⟨rfl, ⟨G, hp⟩, hlen, e0, e5, e9⟩
  revert e0 e5 e9; revert t; refine all_len (n := 193) ?_; iterate 193 intro uu'
  intro e0 e5 e9; cases e0; cases e5; cases e9
  refine sw_takeG hp ?_
  clear hp
  repeat' (first | (refine aw0m ?_) | (refine ap2 ?_ ?_ <;> first | exact True.intro | intro h) | (refine aw1m ?_) | (refine abx ?_; intro bb) | (refine abz ?_; intro bz) | (refine ahv ?_; intro v' hv') | (refine aac ?_; intro ac cc) | (refine aw2 ?_) | (refine ap4 ?_ ?_ <;> first | exact True.intro | intro h) | (with_reducible refine tr_two ?_ ?_))
  refine sw_loop (fun gm t H' => gm = 1 ∧ (∃ G, Takes [] H' G) ∧ (t.length = 193 ∧ t[0]? = some (.slice none 0 0) ∧ t[5]? = some (.slice (some ⟨bm, 0, none⟩) 0 0) ∧ t[11]? = some (.int .i64 0))) _ ⟨rfl, ⟨_, by (exact atks)⟩, rfl, (by first | rfl | exact congrArg some (congrArg (Value.int _) (by omega)) | exact congrArg some (congrArg (fun n => Value.slice _ n _) (by omega)) | (congr 2 <;> omega)), (by first | rfl | exact congrArg some (congrArg (Value.int _) (by omega)) | exact congrArg some (congrArg (fun n => Value.slice _ n _) (by omega)) | (congr 2 <;> omega)), (by first | rfl | exact congrArg some (congrArg (Value.int _) (by omega)) | exact congrArg some (congrArg (fun n => Value.slice _ n _) (by omega)) | (congr 2 <;> omega))⟩ ?_
  rintro gm t H' ⟨rfl, ⟨G, hp⟩, hlen, e0, e5, e11⟩
  revert e0 e5 e11; revert t; refine all_len (n := 193) ?_; iterate 193 intro uu'
  intro e0 e5 e11; cases e0; cases e5; cases e11
  refine sw_takeG hp ?_
  clear hp
  repeat' (first | (refine aw0m ?_) | (refine ap2 ?_ ?_ <;> first | exact True.intro | intro h) | (refine aw1m ?_) | (refine abx ?_; intro bb) | (refine abz ?_; intro bz) | (refine ahv ?_; intro v' hv') | (refine aac ?_; intro ac cc) | (refine aw2 ?_) | (refine ap4 ?_ ?_ <;> first | exact True.intro | intro h) | (with_reducible refine tr_two ?_ ?_))
  refine sw_loop (fun gm t H' => gm = 1 ∧ (∃ G, Takes [] H' G) ∧ (t.length = 193 ∧ t[0]? = some (.slice none 0 0) ∧ t[5]? = some (.slice (some ⟨bm, 0, none⟩) 0 0) ∧ t[14]? = some (.int .i64 0))) _ ⟨rfl, ⟨_, by (exact atks)⟩, rfl, (by first | rfl | exact congrArg some (congrArg (Value.int _) (by omega)) | exact congrArg some (congrArg (fun n => Value.slice _ n _) (by omega)) | (congr 2 <;> omega)), (by first | rfl | exact congrArg some (congrArg (Value.int _) (by omega)) | exact congrArg some (congrArg (fun n => Value.slice _ n _) (by omega)) | (congr 2 <;> omega)), (by first | rfl | exact congrArg some (congrArg (Value.int _) (by omega)) | exact congrArg some (congrArg (fun n => Value.slice _ n _) (by omega)) | (congr 2 <;> omega))⟩ ?_
  rintro gm t H' ⟨rfl, ⟨G, hp⟩, hlen, e0, e5, e14⟩
  revert e0 e5 e14; revert t; refine all_len (n := 193) ?_; iterate 193 intro uu'
  intro e0 e5 e14; cases e0; cases e5; cases e14
  refine sw_takeG hp ?_
  clear hp
  repeat' (first | (refine aw0m ?_) | (refine ap2 ?_ ?_ <;> first | exact True.intro | intro h) | (refine aw1m ?_) | (refine abx ?_; intro bb) | (refine abz ?_; intro bz) | (refine ahv ?_; intro v' hv') | (refine aac ?_; intro ac cc) | (refine aw2 ?_) | (refine ap4 ?_ ?_ <;> first | exact True.intro | intro h) | (with_reducible refine tr_two ?_ ?_))
  ((with_reducible apply fp_ret); exact res_1 rfl rfl)
  exact HR.out _ _ _ [] (by (exact atks)) ⟨rfl, rfl⟩
set_option maxRecDepth 10000 in
set_option maxHeartbeats 1000000 in
theorem flatHits_nil (r : Hp) : Tri Tryz.prog r 91 [.slice none 0 0] [] fun w H => w = .bool true ∧ H = [] := by
  refine Tri.free2 fun R HR => ?_
  refine fn_of_sw Tryz.func91 rfl _ rfl ?_; simp only [Tryz.ntmps91, List.length_cons, List.length_nil, Nat.reduceAdd, Nat.reduceSub, List.replicate_succ, List.replicate_zero, List.nil_append, List.cons_append]
  repeat' (first | (refine aw0m ?_) | (refine ap2 ?_ ?_ <;> first | exact True.intro | intro h) | (refine aw1m ?_) | (refine abx ?_; intro bb) | (refine abz ?_; intro bz) | (refine ahv ?_; intro v' hv') | (refine aac ?_; intro ac cc) | (refine aw2 ?_) | (refine ap4 ?_ ?_ <;> first | exact True.intro | intro h) | (with_reducible refine tr_two ?_ ?_))
  refine sw_loop (fun gm t H' => gm = 1 ∧ (∃ G, Takes [] H' G) ∧ (t.length = 193 ∧ t[0]? = some (.slice none 0 0) ∧ t[3]? = some (.int .i64 0))) _ ⟨rfl, ⟨[], by (exact atks)⟩, rfl, (by first | rfl | exact congrArg some (congrArg (Value.int _) (by omega)) | exact congrArg some (congrArg (fun n => Value.slice _ n _) (by omega)) | (congr 2 <;> omega)), (by first | rfl | exact congrArg some (congrArg (Value.int _) (by omega)) | exact congrArg some (congrArg (fun n => Value.slice _ n _) (by omega)) | (congr 2 <;> omega))⟩ ?_
  rintro gm t H' ⟨rfl, ⟨G, hp⟩, hlen, e0, e3⟩
  revert e0 e3; revert t; refine all_len (n := 193) ?_; iterate 193 intro uu'
  intro e0 e3; cases e0; cases e3
  refine sw_takeG hp ?_
  clear hp
  repeat' (first | ((with_reducible apply kx_make0 (c := 0)); exact ty_el; exact ty_inf; rfl; rfl; (omega); (omega); intro bm; (refine apk ?_)) | (refine aw0 ?_) | (refine ap2 ?_ ?_ <;> first | exact True.intro | intro h) | (refine aw1 ?_) | (refine abx ?_; intro bb) | (refine abz ?_; intro bz) | (refine ahv ?_; intro v' hv') | (refine aac ?_; intro ac cc) | (refine aw2 ?_) | (refine ap4 ?_ ?_ <;> first | exact True.intro | intro h) | (with_reducible refine tr_two ?_ ?_))
  refine sw_loop (fun gm t H' => gm = 1 ∧ (∃ G, Takes [] H' G) ∧ (t.length = 193 ∧ t[0]? = some (.slice none 0 0) ∧ t[5]? = some (.slice (some ⟨bm, 0, none⟩) 0 0) ∧ t[6]? = some (.int .i64 0))) _ ⟨rfl, ⟨_, by (exact atks)⟩, rfl, (by first | rfl | exact congrArg some (congrArg (Value.int _) (by omega)) | exact congrArg some (congrArg (fun n => Value.slice _ n _) (by omega)) | (congr 2 <;> omega)), (by first | rfl | exact congrArg some (congrArg (Value.int _) (by omega)) | exact congrArg some (congrArg (fun n => Value.slice _ n _) (by omega)) | (congr 2 <;> omega)), (by first | rfl | exact congrArg some (congrArg (Value.int _) (by omega)) | exact congrArg some (congrArg (fun n => Value.slice _ n _) (by omega)) | (congr 2 <;> omega))⟩ ?_
  rintro gm t H' ⟨rfl, ⟨G, hp⟩, hlen, e0, e5, e6⟩
  revert e0 e5 e6; revert t; refine all_len (n := 193) ?_; iterate 193 intro uu'
  intro e0 e5 e6; cases e0; cases e5; cases e6
  refine sw_takeG hp ?_
  clear hp
  repeat' (first | (refine aw0m ?_) | (refine ap2 ?_ ?_ <;> first | exact True.intro | intro h) | (refine aw1m ?_) | (refine abx ?_; intro bb) | (refine abz ?_; intro bz) | (refine ahv ?_; intro v' hv') | (refine aac ?_; intro ac cc) | (refine aw2 ?_) | (refine ap4 ?_ ?_ <;> first | exact True.intro | intro h) | (with_reducible refine tr_two ?_ ?_))
  refine sw_loop (fun gm t H' => gm = 1 ∧ (∃ G, Takes [] H' G) ∧ (t.length = 193 ∧ t[0]? = some (.slice none 0 0) ∧ t[5]? = some (.slice (some ⟨bm, 0, none⟩) 0 0) ∧ t[9]? = some (.int .i64 0))) _ ⟨rfl, ⟨_, by (exact atks)⟩, rfl, (by first | rfl | exact congrArg some (congrArg (Value.int _) (by omega)) | exact congrArg some (congrArg (fun n => Value.slice _ n _) (by omega)) | (congr 2 <;> omega)), (by first | rfl | exact congrArg some (congrArg (Value.int _) (by omega)) | exact congrArg some (congrArg (fun n => Value.slice _ n _) (by omega)) | (congr 2 <;> omega)), (by first | rfl | exact congrArg some (congrArg (Value.int _) (by omega)) | exact congrArg some (congrArg (fun n => Value.slice _ n _) (by omega)) | (congr 2 <;> omega))⟩ ?_
  rintro gm t H' ⟨rfl, ⟨G, hp⟩, hlen, e0, e5, e9⟩
  revert e0 e5 e9; revert t; refine all_len (n := 193) ?_; iterate 193 intro uu'
  intro e0 e5 e9; cases e0; cases e5; cases e9
  refine sw_takeG hp ?_
  clear hp
  repeat' (first | (refine aw0m ?_) | (refine ap2 ?_ ?_ <;> first | exact True.intro | intro h) | (refine aw1m ?_) | (refine abx ?_; intro bb) | (refine abz ?_; intro bz) | (refine ahv ?_; intro v' hv') | (refine aac ?_; intro ac cc) | (refine aw2 ?_) | (refine ap4 ?_ ?_ <;> first | exact True.intro | intro h) | (with_reducible refine tr_two ?_ ?_))
  refine sw_loop (fun gm t H' => gm = 1 ∧ (∃ G, Takes [] H' G) ∧ (t.length = 193 ∧ t[0]? = some (.slice none 0 0) ∧ t[5]? = some (.slice (some ⟨bm, 0, none⟩) 0 0) ∧ t[11]? = some (.int .i64 0))) _ ⟨rfl, ⟨_, by (exact atks)⟩, rfl, (by first | rfl | exact congrArg some (congrArg (Value.int _) (by omega)) | exact congrArg some (congrArg (fun n => Value.slice _ n _) (by omega)) | (congr 2 <;> omega)), (by first | rfl | exact congrArg some (congrArg (Value.int _) (by omega)) | exact congrArg some (congrArg (fun n => Value.slice _ n _) (by omega)) | (congr 2 <;> omega)), (by first | rfl | exact congrArg some (congrArg (Value.int _) (by omega)) | exact congrArg some (congrArg (fun n => Value.slice _ n _) (by omega)) | (congr 2 <;> omega))⟩ ?_
  rintro gm t H' ⟨rfl, ⟨G, hp⟩, hlen, e0, e5, e11⟩
  revert e0 e5 e11; revert t; refine all_len (n := 193) ?_; iterate 193 intro uu'
  intro e0 e5 e11; cases e0; cases e5; cases e11
  refine sw_takeG hp ?_
  clear hp
  repeat' (first | (refine aw0m ?_) | (refine ap2 ?_ ?_ <;> first | exact True.intro | intro h) | (refine aw1m ?_) | (refine abx ?_; intro bb) | (refine abz ?_; intro bz) | (refine ahv ?_; intro v' hv') | (refine aac ?_; intro ac cc) | (refine aw2 ?_) | (refine ap4 ?_ ?_ <;> first | exact True.intro | intro h) | (with_reducible refine tr_two ?_ ?_))
  refine sw_loop (fun gm t H' => gm = 1 ∧ (∃ G, Takes [] H' G) ∧ (t.length = 193 ∧ t[0]? = some (.slice none 0 0) ∧ t[5]? = some (.slice (some ⟨bm, 0, none⟩) 0 0) ∧ t[14]? = some (.int .i64 0))) _ ⟨rfl, ⟨_, by (exact atks)⟩, rfl, (by first | rfl | exact congrArg some (congrArg (Value.int _) (by omega)) | exact congrArg some (congrArg (fun n => Value.slice _ n _) (by omega)) | (congr 2 <;> omega)), (by first | rfl | exact congrArg some (congrArg (Value.int _) (by omega)) | exact congrArg some (congrArg (fun n => Value.slice _ n _) (by omega)) | (congr 2 <;> omega)), (by first | rfl | exact congrArg some (congrArg (Value.int _) (by omega)) | exact congrArg some (congrArg (fun n => Value.slice _ n _) (by omega)) | (congr 2 <;> omega))⟩ ?_
  rintro gm t H' ⟨rfl, ⟨G, hp⟩, hlen, e0, e5, e14⟩
  revert e0 e5 e14; revert t; refine all_len (n := 193) ?_; iterate 193 intro uu'
  intro e0 e5 e14; cases e0; cases e5; cases e14
  refine sw_takeG hp ?_
  clear hp
  repeat' (first | (refine aw0m ?_) | (refine ap2 ?_ ?_ <;> first | exact True.intro | intro h) | (refine aw1m ?_) | (refine abx ?_; intro bb) | (refine abz ?_; intro bz) | (refine ahv ?_; intro v' hv') | (refine aac ?_; intro ac cc) | (refine aw2 ?_) | (refine ap4 ?_ ?_ <;> first | exact True.intro | intro h) | (with_reducible refine tr_two ?_ ?_))
  ((with_reducible apply fp_ret); exact res_1 rfl rfl)
  exact HR.out _ _ _ [] (by (exact atks)) ⟨rfl, rfl⟩
set_option maxRecDepth 10000 in
set_option maxHeartbeats 1000000 in
theorem flatAnswers_nil (r : Hp) : Tri Tryz.prog r 92 [.slice none 0 0] [] fun w H => w = .bool true ∧ H = [] := by
  refine Tri.free2 fun R HR => ?_
  refine fn_of_sw Tryz.func92 rfl _ rfl ?_; simp only [Tryz.ntmps92, List.length_cons, List.length_nil, Nat.reduceAdd, Nat.reduceSub, List.replicate_succ, List.replicate_zero, List.nil_append, List.cons_append]
  repeat' (first | (refine aw0m ?_) | (refine ap2 ?_ ?_ <;> first | exact True.intro | intro h) | (refine aw1m ?_) | (refine abx ?_; intro bb) | (refine abz ?_; intro bz) | (refine ahv ?_; intro v' hv') | (refine aac ?_; intro ac cc) | (refine aw2 ?_) | (refine ap4 ?_ ?_ <;> first | exact True.intro | intro h) | (with_reducible refine tr_two ?_ ?_))
  refine sw_loop (fun gm t H' => gm = 1 ∧ (∃ G, Takes [] H' G) ∧ (t.length = 193 ∧ t[0]? = some (.slice none 0 0) ∧ t[3]? = some (.int .i64 0))) _ ⟨rfl, ⟨[], by (exact atks)⟩, rfl, (by first | rfl | exact congrArg some (congrArg (Value.int _) (by omega)) | exact congrArg some (congrArg (fun n => Value.slice _ n _) (by omega)) | (congr 2 <;> omega)), (by first | rfl | exact congrArg some (congrArg (Value.int _) (by omega)) | exact congrArg some (congrArg (fun n => Value.slice _ n _) (by omega)) | (congr 2 <;> omega))⟩ ?_
  rintro gm t H' ⟨rfl, ⟨G, hp⟩, hlen, e0, e3⟩
  revert e0 e3; revert t; refine all_len (n := 193) ?_; iterate 193 intro uu'
  intro e0 e3; cases e0; cases e3
  refine sw_takeG hp ?_
  clear hp
  repeat' (first | ((with_reducible apply kx_make0 (c := 0)); exact ty_el; exact ty_inf; rfl; rfl; (omega); (omega); intro bm; (refine apk ?_)) | (refine aw0 ?_) | (refine ap2 ?_ ?_ <;> first | exact True.intro | intro h) | (refine aw1 ?_) | (refine abx ?_; intro bb) | (refine abz ?_; intro bz) | (refine ahv ?_; intro v' hv') | (refine aac ?_; intro ac cc) | (refine aw2 ?_) | (refine ap4 ?_ ?_ <;> first | exact True.intro | intro h) | (with_reducible refine tr_two ?_ ?_))
  refine sw_loop (fun gm t H' => gm = 1 ∧ (∃ G, Takes [] H' G) ∧ (t.length = 193 ∧ t[0]? = some (.slice none 0 0) ∧ t[5]? = some (.slice (some ⟨bm, 0, none⟩) 0 0) ∧ t[6]? = some (.int .i64 0))) _ ⟨rfl, ⟨_, by (exact atks)⟩, rfl, (by first | rfl | exact congrArg some (congrArg (Value.int _) (by omega)) | exact congrArg some (congrArg (fun n => Value.slice _ n _) (by omega)) | (congr 2 <;> omega)), (by first | rfl | exact congrArg some (congrArg (Value.int _) (by omega)) | exact congrArg some (congrArg (fun n => Value.slice _ n _) (by omega)) | (congr 2 <;> omega)), (by first | rfl | exact congrArg some (congrArg (Value.int _) (by omega)) | exact congrArg some (congrArg (fun n => Value.slice _ n _) (by omega)) | (congr 2 <;> omega))⟩ ?_
  rintro gm t H' ⟨rfl, ⟨G, hp⟩, hlen, e0, e5, e6⟩
  revert e0 e5 e6; revert t; refine all_len (n := 193) ?_; iterate 193 intro uu'
  intro e0 e5 e6; cases e0; cases e5; cases e6
  refine sw_takeG hp ?_
  clear hp
  repeat' (first | (refine aw0m ?_) | (refine ap2 ?_ ?_ <;> first | exact True.intro | intro h) | (refine aw1m ?_) | (refine abx ?_; intro bb) | (refine abz ?_; intro bz) | (refine ahv ?_; intro v' hv') | (refine aac ?_; intro ac cc) | (refine aw2 ?_) | (refine ap4 ?_ ?_ <;> first | exact True.intro | intro h) | (with_reducible refine tr_two ?_ ?_))
  refine sw_loop (fun gm t H' => gm = 1 ∧ (∃ G, Takes [] H' G) ∧ (t.length = 193 ∧ t[0]? = some (.slice none 0 0) ∧ t[5]? = some (.slice (some ⟨bm, 0, none⟩) 0 0) ∧ t[9]? = some (.int .i64 0))) _ ⟨rfl, ⟨_, by (exact atks)⟩, rfl, (by first | rfl | exact congrArg some (congrArg (Value.int _) (by omega)) | exact congrArg some (congrArg (fun n => Value.slice _ n _) (by omega)) | (congr 2 <;> omega)), (by first | rfl | exact congrArg some (congrArg (Value.int _) (by omega)) | exact congrArg some (congrArg (fun n => Value.slice _ n _) (by omega)) | (congr 2 <;> omega)), (by first | rfl | exact congrArg some (congrArg (Value.int _) (by omega)) | exact congrArg some (congrArg (fun n => Value.slice _ n _) (by omega)) | (congr 2 <;> omega))⟩ ?_
  rintro gm t H' ⟨rfl, ⟨G, hp⟩, hlen, e0, e5, e9⟩
  revert e0 e5 e9; revert t; refine all_len (n := 193) ?_; iterate 193 intro uu'
  intro e0 e5 e9; cases e0; cases e5; cases e9
  refine sw_takeG hp ?_
  clear hp
  repeat' (first | (refine aw0m ?_) | (refine ap2 ?_ ?_ <;> first | exact True.intro | intro h) | (refine aw1m ?_) | (refine abx ?_; intro bb) | (refine abz ?_; intro bz) | (refine ahv ?_; intro v' hv') | (refine aac ?_; intro ac cc) | (refine aw2 ?_) | (refine ap4 ?_ ?_ <;> first | exact True.intro | intro h) | (with_reducible refine tr_two ?_ ?_))
  refine sw_loop (fun gm t H' => gm = 1 ∧ (∃ G, Takes [] H' G) ∧ (t.length = 193 ∧ t[0]? = some (.slice none 0 0) ∧ t[5]? = some (.slice (some ⟨bm, 0, none⟩) 0 0) ∧ t[11]? = some (.int .i64 0))) _ ⟨rfl, ⟨_, by (exact atks)⟩, rfl, (by first | rfl | exact congrArg some (congrArg (Value.int _) (by omega)) | exact congrArg some (congrArg (fun n => Value.slice _ n _) (by omega)) | (congr 2 <;> omega)), (by first | rfl | exact congrArg some (congrArg (Value.int _) (by omega)) | exact congrArg some (congrArg (fun n => Value.slice _ n _) (by omega)) | (congr 2 <;> omega)), (by first | rfl | exact congrArg some (congrArg (Value.int _) (by omega)) | exact congrArg some (congrArg (fun n => Value.slice _ n _) (by omega)) | (congr 2 <;> omega))⟩ ?_
  rintro gm t H' ⟨rfl, ⟨G, hp⟩, hlen, e0, e5, e11⟩
  revert e0 e5 e11; revert t; refine all_len (n := 193) ?_; iterate 193 intro uu'
  intro e0 e5 e11; cases e0; cases e5; cases e11
  refine sw_takeG hp ?_
  clear hp
  repeat' (first | (refine aw0m ?_) | (refine ap2 ?_ ?_ <;> first | exact True.intro | intro h) | (refine aw1m ?_) | (refine abx ?_; intro bb) | (refine abz ?_; intro bz) | (refine ahv ?_; intro v' hv') | (refine aac ?_; intro ac cc) | (refine aw2 ?_) | (refine ap4 ?_ ?_ <;> first | exact True.intro | intro h) | (with_reducible refine tr_two ?_ ?_))
  refine sw_loop (fun gm t H' => gm = 1 ∧ (∃ G, Takes [] H' G) ∧ (t.length = 193 ∧ t[0]? = some (.slice none 0 0) ∧ t[5]? = some (.slice (some ⟨bm, 0, none⟩) 0 0) ∧ t[14]? = some (.int .i64 0))) _ ⟨rfl, ⟨_, by (exact atks)⟩, rfl, (by first | rfl | exact congrArg some (congrArg (Value.int _) (by omega)) | exact congrArg some (congrArg (fun n => Value.slice _ n _) (by omega)) | (congr 2 <;> omega)), (by first | rfl | exact congrArg some (congrArg (Value.int _) (by omega)) | exact congrArg some (congrArg (fun n => Value.slice _ n _) (by omega)) | (congr 2 <;> omega)), (by first | rfl | exact congrArg some (congrArg (Value.int _) (by omega)) | exact congrArg some (congrArg (fun n => Value.slice _ n _) (by omega)) | (congr 2 <;> omega))⟩ ?_
  rintro gm t H' ⟨rfl, ⟨G, hp⟩, hlen, e0, e5, e14⟩
  revert e0 e5 e14; revert t; refine all_len (n := 193) ?_; iterate 193 intro uu'
  intro e0 e5 e14; cases e0; cases e5; cases e14
  refine sw_takeG hp ?_
  clear hp
  repeat' (first | (refine aw0m ?_) | (refine ap2 ?_ ?_ <;> first | exact True.intro | intro h) | (refine aw1m ?_) | (refine abx ?_; intro bb) | (refine abz ?_; intro bz) | (refine ahv ?_; intro v' hv') | (refine aac ?_; intro ac cc) | (refine aw2 ?_) | (refine ap4 ?_ ?_ <;> first | exact True.intro | intro h) | (with_reducible refine tr_two ?_ ?_))
  ((with_reducible apply fp_ret); exact res_1 rfl rfl)
  exact HR.out _ _ _ [] (by (exact atks)) ⟨rfl, rfl⟩
set_option maxRecDepth 10000 in
set_option maxHeartbeats 1000000 in
theorem flatParts_nil (r : Hp) : Tri Tryz.prog r 93 [.slice none 0 0] [] fun w H => w = .bool true ∧ H = [] := by
  refine Tri.free2 fun R HR => ?_
  refine fn_of_sw Tryz.func93 rfl _ rfl ?_; simp only [Tryz.ntmps93, List.length_cons, List.length_nil, Nat.reduceAdd, Nat.reduceSub, List.replicate_succ, List.replicate_zero, List.nil_append, List.cons_append]
  repeat' (first | (refine aw0m ?_) | (refine ap2 ?_ ?_ <;> first | exact True.intro | intro h) | (refine aw1m ?_) | (refine abx ?_; intro bb) | (refine abz ?_; intro bz) | (refine ahv ?_; intro v' hv') | (refine aac ?_; intro ac cc) | (refine aw2 ?_) | (refine ap4 ?_ ?_ <;> first | exact True.intro | intro h) | (with_reducible refine tr_two ?_ ?_))
  refine sw_loop (fun gm t H' => gm = 1 ∧ (∃ G, Takes [] H' G) ∧ (t.length = 193 ∧ t[0]? = some (.slice none 0 0) ∧ t[3]? = some (.int .i64 0))) _ ⟨rfl, ⟨[], by (exact atks)⟩, rfl, (by first | rfl | exact congrArg some (congrArg (Value.int _) (by omega)) | exact congrArg some (congrArg (fun n => Value.slice _ n _) (by omega)) | (congr 2 <;> omega)), (by first | rfl | exact congrArg some (congrArg (Value.int _) (by omega)) | exact congrArg some (congrArg (fun n => Value.slice _ n _) (by omega)) | (congr 2 <;> omega))⟩ ?_
  rintro gm t H' ⟨rfl, ⟨G, hp⟩, hlen, e0, e3⟩
  revert e0 e3; revert t; refine all_len (n := 193) ?_; iterate 193 intro uu'
  intro e0 e3; cases e0; cases e3
  refine sw_takeG hp ?_
  clear hp
  repeat' (first | ((with_reducible apply kx_make0 (c := 0)); exact ty_el; exact ty_inf; rfl; rfl; (omega); (omega); intro bm; (refine apk ?_)) | (refine aw0 ?_) | (refine ap2 ?_ ?_ <;> first | exact True.intro | intro h) | (refine aw1 ?_) | (refine abx ?_; intro bb) | (refine abz ?_; intro bz) | (refine ahv ?_; intro v' hv') | (refine aac ?_; intro ac cc) | (refine aw2 ?_) | (refine ap4 ?_ ?_ <;> first | exact True.intro | intro h) | (with_reducible refine tr_two ?_ ?_))
  refine sw_loop (fun gm t H' => gm = 1 ∧ (∃ G, Takes [] H' G) ∧ (t.length = 193 ∧ t[0]? = some (.slice none 0 0) ∧ t[5]? = some (.slice (some ⟨bm, 0, none⟩) 0 0) ∧ t[6]? = some (.int .i64 0))) _ ⟨rfl, ⟨_, by (exact atks)⟩, rfl, (by first | rfl | exact congrArg some (congrArg (Value.int _) (by omega)) | exact congrArg some (congrArg (fun n => Value.slice _ n _) (by omega)) | (congr 2 <;> omega)), (by first | rfl | exact congrArg some (congrArg (Value.int _) (by omega)) | exact congrArg some (congrArg (fun n => Value.slice _ n _) (by omega)) | (congr 2 <;> omega)), (by first | rfl | exact congrArg some (congrArg (Value.int _) (by omega)) | exact congrArg some (congrArg (fun n => Value.slice _ n _) (by omega)) | (congr 2 <;> omega))⟩ ?_
  rintro gm t H' ⟨rfl, ⟨G, hp⟩, hlen, e0, e5, e6⟩
  revert e0 e5 e6; revert t; refine all_len (n := 193) ?_; iterate 193 intro uu'
  intro e0 e5 e6; cases e0; cases e5; cases e6
  refine sw_takeG hp ?_
  clear hp
  repeat' (first | (refine aw0m ?_) | (refine ap2 ?_ ?_ <;> first | exact True.intro | intro h) | (refine aw1m ?_) | (refine abx ?_; intro bb) | (refine abz ?_; intro bz) | (refine ahv ?_; intro v' hv') | (refine aac ?_; intro ac cc) | (refine aw2 ?_) | (refine ap4 ?_ ?_ <;> first | exact True.intro | intro h) | (with_reducible refine tr_two ?_ ?_))
  refine sw_loop (fun gm t H' => gm = 1 ∧ (∃ G, Takes [] H' G) ∧ (t.length = 193 ∧ t[0]? = some (.slice none 0 0) ∧ t[5]? = some (.slice (some ⟨bm, 0, none⟩) 0 0) ∧ t[9]? = some (.int .i64 0))) _ ⟨rfl, ⟨_, by (exact atks)⟩, rfl, (by first | rfl | exact congrArg some (congrArg (Value.int _) (by omega)) | exact congrArg some (congrArg (fun n => Value.slice _ n _) (by omega)) | (congr 2 <;> omega)), (by first | rfl | exact congrArg some (congrArg (Value.int _) (by omega)) | exact congrArg some (congrArg (fun n => Value.slice _ n _) (by omega)) | (congr 2 <;> omega)), (by first | rfl | exact congrArg some (congrArg (Value.int _) (by omega)) | exact congrArg some (congrArg (fun n => Value.slice _ n _) (by omega)) | (congr 2 <;> omega))⟩ ?_
  rintro gm t H' ⟨rfl, ⟨G, hp⟩, hlen, e0, e5, e9⟩
  revert e0 e5 e9; revert t; refine all_len (n := 193) ?_; iterate 193 intro uu'
  intro e0 e5 e9; cases e0; cases e5; cases e9
  refine sw_takeG hp ?_
  clear hp
  repeat' (first | (refine aw0m ?_) | (refine ap2 ?_ ?_ <;> first | exact True.intro | intro h) | (refine aw1m ?_) | (refine abx ?_; intro bb) | (refine abz ?_; intro bz) | (refine ahv ?_; intro v' hv') | (refine aac ?_; intro ac cc) | (refine aw2 ?_) | (refine ap4 ?_ ?_ <;> first | exact True.intro | intro h) | (with_reducible refine tr_two ?_ ?_))
  refine sw_loop (fun gm t H' => gm = 1 ∧ (∃ G, Takes [] H' G) ∧ (t.length = 193 ∧ t[0]? = some (.slice none 0 0) ∧ t[5]? = some (.slice (some ⟨bm, 0, none⟩) 0 0) ∧ t[11]? = some (.int .i64 0))) _ ⟨rfl, ⟨_, by (exact atks)⟩, rfl, (by first | rfl | exact congrArg some (congrArg (Value.int _) (by omega)) | exact congrArg some (congrArg (fun n => Value.slice _ n _) (by omega)) | (congr 2 <;> omega)), (by first | rfl | exact congrArg some (congrArg (Value.int _) (by omega)) | exact congrArg some (congrArg (fun n => Value.slice _ n _) (by omega)) | (congr 2 <;> omega)), (by first | rfl | exact congrArg some (congrArg (Value.int _) (by omega)) | exact congrArg some (congrArg (fun n => Value.slice _ n _) (by omega)) | (congr 2 <;> omega))⟩ ?_
  rintro gm t H' ⟨rfl, ⟨G, hp⟩, hlen, e0, e5, e11⟩
  revert e0 e5 e11; revert t; refine all_len (n := 193) ?_; iterate 193 intro uu'
  intro e0 e5 e11; cases e0; cases e5; cases e11
  refine sw_takeG hp ?_
  clear hp
  repeat' (first | (refine aw0m ?_) | (refine ap2 ?_ ?_ <;> first | exact True.intro | intro h) | (refine aw1m ?_) | (refine abx ?_; intro bb) | (refine abz ?_; intro bz) | (refine ahv ?_; intro v' hv') | (refine aac ?_; intro ac cc) | (refine aw2 ?_) | (refine ap4 ?_ ?_ <;> first | exact True.intro | intro h) | (with_reducible refine tr_two ?_ ?_))
  refine sw_loop (fun gm t H' => gm = 1 ∧ (∃ G, Takes [] H' G) ∧ (t.length = 193 ∧ t[0]? = some (.slice none 0 0) ∧ t[5]? = some (.slice (some ⟨bm, 0, none⟩) 0 0) ∧ t[14]? = some (.int .i64 0))) _ ⟨rfl, ⟨_, by (exact atks)⟩, rfl, (by first | rfl | exact congrArg some (congrArg (Value.int _) (by omega)) | exact congrArg some (congrArg (fun n => Value.slice _ n _) (by omega)) | (congr 2 <;> omega)), (by first | rfl | exact congrArg some (congrArg (Value.int _) (by omega)) | exact congrArg some (congrArg (fun n => Value.slice _ n _) (by omega)) | (congr 2 <;> omega)), (by first | rfl | exact congrArg some (congrArg (Value.int _) (by omega)) | exact congrArg some (congrArg (fun n => Value.slice _ n _) (by omega)) | (congr 2 <;> omega))⟩ ?_
  rintro gm t H' ⟨rfl, ⟨G, hp⟩, hlen, e0, e5, e14⟩
  revert e0 e5 e14; revert t; refine all_len (n := 193) ?_; iterate 193 intro uu'
  intro e0 e5 e14; cases e0; cases e5; cases e14
  refine sw_takeG hp ?_
  clear hp
  repeat' (first | (refine aw0m ?_) | (refine ap2 ?_ ?_ <;> first | exact True.intro | intro h) | (refine aw1m ?_) | (refine abx ?_; intro bb) | (refine abz ?_; intro bz) | (refine ahv ?_; intro v' hv') | (refine aac ?_; intro ac cc) | (refine aw2 ?_) | (refine ap4 ?_ ?_ <;> first | exact True.intro | intro h) | (with_reducible refine tr_two ?_ ?_))
  ((with_reducible apply fp_ret); exact res_1 rfl rfl)
  exact HR.out _ _ _ [] (by (exact atks)) ⟨rfl, rfl⟩
set_option maxRecDepth 10000 in
set_option maxHeartbeats 1000000 in
theorem flatChanges_nil (r : Hp) : Tri Tryz.prog r 94 [.slice none 0 0] [] fun w H => w = .bool true ∧ H = [] := by
  refine Tri.free2 fun R HR => ?_
  refine fn_of_sw Tryz.func94 rfl _ rfl ?_; simp only [Tryz.ntmps94, List.length_cons, List.length_nil, Nat.reduceAdd, Nat.reduceSub, List.replicate_succ, List.replicate_zero, List.nil_append, List.cons_append]
  repeat' (first | (refine aw0m ?_) | (refine ap2 ?_ ?_ <;> first | exact True.intro | intro h) | (refine aw1m ?_) | (refine abx ?_; intro bb) | (refine abz ?_; intro bz) | (refine ahv ?_; intro v' hv') | (refine aac ?_; intro ac cc) | (refine aw2 ?_) | (refine ap4 ?_ ?_ <;> first | exact True.intro | intro h) | (with_reducible refine tr_two ?_ ?_))
  refine sw_loop (fun gm t H' => gm = 1 ∧ (∃ G, Takes [] H' G) ∧ (t.length = 193 ∧ t[0]? = some (.slice none 0 0) ∧ t[3]? = some (.int .i64 0))) _ ⟨rfl, ⟨[], by (exact atks)⟩, rfl, (by first | rfl | exact congrArg some (congrArg (Value.int _) (by omega)) | exact congrArg some (congrArg (fun n => Value.slice _ n _) (by omega)) | (congr 2 <;> omega)), (by first | rfl | exact congrArg some (congrArg (Value.int _) (by omega)) | exact congrArg some (congrArg (fun n => Value.slice _ n _) (by omega)) | (congr 2 <;> omega))⟩ ?_
  rintro gm t H' ⟨rfl, ⟨G, hp⟩, hlen, e0, e3⟩
  revert e0 e3; revert t; refine all_len (n := 193) ?_; iterate 193 intro uu'
  intro e0 e3; cases e0; cases e3
  refine sw_takeG hp ?_
  clear hp
  repeat' (first | ((with_reducible apply kx_make0 (c := 0)); exact ty_el; exact ty_inf; rfl; rfl; (omega); (omega); intro bm; (refine apk ?_)) | (refine aw0 ?_) | (refine ap2 ?_ ?_ <;> first | exact True.intro | intro h) | (refine aw1 ?_) | (refine abx ?_; intro bb) | (refine abz ?_; intro bz) | (refine ahv ?_; intro v' hv') | (refine aac ?_; intro ac cc) | (refine aw2 ?_) | (refine ap4 ?_ ?_ <;> first | exact True.intro | intro h) | (with_reducible refine tr_two ?_ ?_))
  refine sw_loop (fun gm t H' => gm = 1 ∧ (∃ G, Takes [] H' G) ∧ (t.length = 193 ∧ t[0]? = some (.slice none 0 0) ∧ t[5]? = some (.slice (some ⟨bm, 0, none⟩) 0 0) ∧ t[6]? = some (.int .i64 0))) _ ⟨rfl, ⟨_, by (exact atks)⟩, rfl, (by first | rfl | exact congrArg some (congrArg (Value.int _) (by omega)) | exact congrArg some (congrArg (fun n => Value.slice _ n _) (by omega)) | (congr 2 <;> omega)), (by first | rfl | exact congrArg some (congrArg (Value.int _) (by omega)) | exact congrArg some (congrArg (fun n => Value.slice _ n _) (by omega)) | (congr 2 <;> omega)), (by first | rfl | exact congrArg some (congrArg (Value.int _) (by omega)) | exact congrArg some (congrArg (fun n => Value.slice _ n _) (by omega)) | (congr 2 <;> omega))⟩ ?_
  rintro gm t H' ⟨rfl, ⟨G, hp⟩, hlen, e0, e5, e6⟩
  revert e0 e5 e6; revert t; refine all_len (n := 193) ?_; iterate 193 intro uu'
  intro e0 e5 e6; cases e0; cases e5; cases e6
  refine sw_takeG hp ?_
  clear hp
  repeat' (first | (refine aw0m ?_) | (refine ap2 ?_ ?_ <;> first | exact True.intro | intro h) | (refine aw1m ?_) | (refine abx ?_; intro bb) | (refine abz ?_; intro bz) | (refine ahv ?_; intro v' hv') | (refine aac ?_; intro ac cc) | (refine aw2 ?_) | (refine ap4 ?_ ?_ <;> first | exact True.intro | intro h) | (with_reducible refine tr_two ?_ ?_))
  refine sw_loop (fun gm t H' => gm = 1 ∧ (∃ G, Takes [] H' G) ∧ (t.length = 193 ∧ t[0]? = some (.slice none 0 0) ∧ t[5]? = some (.slice (some ⟨bm, 0, none⟩) 0 0) ∧ t[9]? = some (.int .i64 0))) _ ⟨rfl, ⟨_, by (exact atks)⟩, rfl, (by first | rfl | exact congrArg some (congrArg (Value.int _) (by omega)) | exact congrArg some (congrArg (fun n => Value.slice _ n _) (by omega)) | (congr 2 <;> omega)), (by first | rfl | exact congrArg some (congrArg (Value.int _) (by omega)) | exact congrArg some (congrArg (fun n => Value.slice _ n _) (by omega)) | (congr 2 <;> omega)), (by first | rfl | exact congrArg some (congrArg (Value.int _) (by omega)) | exact congrArg some (congrArg (fun n => Value.slice _ n _) (by omega)) | (congr 2 <;> omega))⟩ ?_
  rintro gm t H' ⟨rfl, ⟨G, hp⟩, hlen, e0, e5, e9⟩
  revert e0 e5 e9; revert t; refine all_len (n := 193) ?_; iterate 193 intro uu'
  intro e0 e5 e9; cases e0; cases e5; cases e9
  refine sw_takeG hp ?_
  clear hp
  repeat' (first | (refine aw0m ?_) | (refine ap2 ?_ ?_ <;> first | exact True.intro | intro h) | (refine aw1m ?_) | (refine abx ?_; intro bb) | (refine abz ?_; intro bz) | (refine ahv ?_; intro v' hv') | (refine aac ?_; intro ac cc) | (refine aw2 ?_) | (refine ap4 ?_ ?_ <;> first | exact True.intro | intro h) | (with_reducible refine tr_two ?_ ?_))
  refine sw_loop (fun gm t H' => gm = 1 ∧ (∃ G, Takes [] H' G) ∧ (t.length = 193 ∧ t[0]? = some (.slice none 0 0) ∧ t[5]? = some (.slice (some ⟨bm, 0, none⟩) 0 0) ∧ t[11]? = some (.int .i64 0))) _ ⟨rfl, ⟨_, by (exact atks)⟩, rfl, (by first | rfl | exact congrArg some (congrArg (Value.int _) (by omega)) | exact congrArg some (congrArg (fun n => Value.slice _ n _) (by omega)) | (congr 2 <;> omega)), (by first | rfl | exact congrArg some (congrArg (Value.int _) (by omega)) | exact congrArg some (congrArg (fun n => Value.slice _ n _) (by omega)) | (congr 2 <;> omega)), (by first | rfl | exact congrArg some (congrArg (Value.int _) (by omega)) | exact congrArg some (congrArg (fun n => Value.slice _ n _) (by omega)) | (congr 2 <;> omega))⟩ ?_
  rintro gm t H' ⟨rfl, ⟨G, hp⟩, hlen, e0, e5, e11⟩
  revert e0 e5 e11; revert t; refine all_len (n := 193) ?_; iterate 193 intro uu'
  intro e0 e5 e11; cases e0; cases e5; cases e11
  refine sw_takeG hp ?_
  clear hp
  repeat' (first | (refine aw0m ?_) | (refine ap2 ?_ ?_ <;> first | exact True.intro | intro h) | (refine aw1m ?_) | (refine abx ?_; intro bb) | (refine abz ?_; intro bz) | (refine ahv ?_; intro v' hv') | (refine aac ?_; intro ac cc) | (refine aw2 ?_) | (refine ap4 ?_ ?_ <;> first | exact True.intro | intro h) | (with_reducible refine tr_two ?_ ?_))
  refine sw_loop (fun gm t H' => gm = 1 ∧ (∃ G, Takes [] H' G) ∧ (t.length = 193 ∧ t[0]? = some (.slice none 0 0) ∧ t[5]? = some (.slice (some ⟨bm, 0, none⟩) 0 0) ∧ t[14]? = some (.int .i64 0))) _ ⟨rfl, ⟨_, by (exact atks)⟩, rfl, (by first | rfl | exact congrArg some (congrArg (Value.int _) (by omega)) | exact congrArg some (congrArg (fun n => Value.slice _ n _) (by omega)) | (congr 2 <;> omega)), (by first | rfl | exact congrArg some (congrArg (Value.int _) (by omega)) | exact congrArg some (congrArg (fun n => Value.slice _ n _) (by omega)) | (congr 2 <;> omega)), (by first | rfl | exact congrArg some (congrArg (Value.int _) (by omega)) | exact congrArg some (congrArg (fun n => Value.slice _ n _) (by omega)) | (congr 2 <;> omega))⟩ ?_
  rintro gm t H' ⟨rfl, ⟨G, hp⟩, hlen, e0, e5, e14⟩
  revert e0 e5 e14; revert t; refine all_len (n := 193) ?_; iterate 193 intro uu'
  intro e0 e5 e14; cases e0; cases e5; cases e14
  refine sw_takeG hp ?_
  clear hp
  repeat' (first | (refine aw0m ?_) | (refine ap2 ?_ ?_ <;> first | exact True.intro | intro h) | (refine aw1m ?_) | (refine abx ?_; intro bb) | (refine abz ?_; intro bz) | (refine ahv ?_; intro v' hv') | (refine aac ?_; intro ac cc) | (refine aw2 ?_) | (refine ap4 ?_ ?_ <;> first | exact True.intro | intro h) | (with_reducible refine tr_two ?_ ?_))
  ((with_reducible apply fp_ret); exact res_1 rfl rfl)
  exact HR.out _ _ _ [] (by (exact atks)) ⟨rfl, rfl⟩
end Go.Proofs.YtkbajhiahpkgiaaGreat

namespace Go.Proofs.YtkbajhiahpkgiaaGreat
open Go.RowKit Sx

/-- A bag that holds but rows of bytes. -/
abbrev bagO (w : Value) : Obj := .cells [.slice none 0 0, .slice none 0 0, .slice none 0 0, .slice none 0 0, .slice none 0 0, w, .slice none 0 0, .slice none 0 0, .slice none 0 0, .slice none 0 0, .slice none 0 0, .slice none 0 0, .slice none 0 0, .slice none 0 0, .slice none 0 0, .slice none 0 0, .slice none 0 0, .slice none 0 0, .slice none 0 0, .slice none 0 0, .slice none 0 0].toArray 87 (0, 0)
set_option maxRecDepth 10000 in
set_option maxHeartbeats 1000000 in
theorem putBytes_any (r : Hp) (g : Nat) (w : Value) (n : Nat) (xs : List Value) (a : Option Addr) (m c : Nat) (hn : n ≤ 1000000) : Tri Tryz.prog r 69 [.pointer (some ⟨g, 0, none⟩), .slice a m c] [pt g (bagO w), RowC 33 1 w n xs] fun _ H => ∃ a' c', H = [pt g (bagO (.slice a' (n + 1) c')), RowC 33 1 (.slice a' (n + 1) c') (n + 1) (xs ++ [.slice a m c])] := by
  refine Tri.free2 fun R HR => ?_
  refine fn_of_sw Tryz.func69 rfl _ rfl ?_; simp only [Tryz.ntmps69, List.length_cons, List.length_nil, Nat.reduceAdd, Nat.reduceSub, List.replicate_succ, List.replicate_zero, List.nil_append, List.cons_append]
  repeat' (first | (first | ((with_reducible apply kx_bs1); exact ty_el; exact ty_inf; rfl; rfl; rfl; intro bz; (refine apk ?_)) | ((with_reducible apply kx_bsN); exact ty_el; exact ty_inf; rfl; rfl; rfl; intro bz; (refine apk ?_))) | (first | ((with_reducible apply kx_append1); exact ty_el; exact ty_inf; rfl; rfl; rfl; (exact atk); (exact atk); rfl; (omega); intro a' c'; (refine apk ?_)) | ((with_reducible apply kx_appendN); exact ty_el; exact ty_inf; rfl; rfl; rfl; rfl; (exact atk); (exact atk); rfl; rfl; (omega); intro a' c'; (refine apk ?_))) | (refine aw0 ?_) | (refine ap2 ?_ ?_ <;> first | exact True.intro | intro h) | (refine aw1 ?_) | (refine abx ?_; intro bb) | (refine abz ?_; intro bz) | (refine ahv ?_; intro v' hv') | (refine aac ?_; intro ac cc) | (refine aw2 ?_) | (refine ap4 ?_ ?_ <;> first | exact True.intro | intro h) | (with_reducible refine tr_two ?_ ?_))
  ((with_reducible apply fp_end); exact res_0 rfl)
  exact HR.out _ _ _ [pt g _, RowC 33 1 _ _ _] (by (exact atks)) ⟨_, _, rfl⟩
set_option maxRecDepth 10000 in
set_option maxHeartbeats 4000000 in
theorem apart_any (r : Hp) (g : Nat) (w : Value) (rows : List RowV) (hn : rows.length ≤ 1000000) (hl : ∀ x ∈ rows, x.l.length ≤ 100000000) : Tri Tryz.prog r 40 [.pointer (some ⟨g, 0, none⟩)] [pt g (bagO w), RowC 33 1 w rows.length (rows.flatMap encS), Fam rows.length (fb1 rows) (fb0 rows) 0] fun w H => w = .bool true ∧ H = [] := by
  refine Tri.free2 fun R HR => ?_
  refine fn_of_sw Tryz.func40 rfl _ rfl ?_; simp only [Tryz.ntmps40, List.length_cons, List.length_nil, Nat.reduceAdd, Nat.reduceSub, List.replicate_succ, List.replicate_zero, List.nil_append, List.cons_append]
  repeat' (first | (refine aw0m ?_) | (refine ap2 ?_ ?_ <;> first | exact True.intro | intro h) | (refine aw1m ?_) | (refine abx ?_; intro bb) | (refine abz ?_; intro bz) | (refine ahv ?_; intro v' hv') | (refine aac ?_; intro ac cc) | (refine aw2 ?_) | (refine ap4 ?_ ?_ <;> first | exact True.intro | intro h) | (with_reducible refine tr_two ?_ ?_))
  simp only [List.append_eq, List.cons_append, List.nil_append]
  repeat' (first | ((with_reducible apply kx_lendC (A := RowC 33 1 w rows.length (rows.flatMap encS))); (exact atk); intro r1 g1 hr1 hg1 hA1; ((with_reducible apply kx_call (f := 79) (cap := [])); exact goesOf Tryz.func79 (by kernel_rfl) rfl; rfl; rfl; exact (flatBytes_any r1 w rows ⟨fun _ => rfl, hA1.sl hg1⟩ hn hl); (exact atks); rintro v' H' ⟨rfl, rfl⟩; all_goals ((try simp only [List.nil_append]); (refine apk ?_)))) | ((with_reducible apply kx_call (f := 74) (cap := [])); exact goesOf Tryz.func74 (by kernel_rfl) rfl; rfl; rfl; exact (flatLimbs_nil _); (exact atks); rintro v' H' ⟨rfl, rfl⟩; all_goals ((try simp only [List.nil_append]); (refine apk ?_))) | ((with_reducible apply kx_call (f := 75) (cap := [])); exact goesOf Tryz.func75 (by kernel_rfl) rfl; rfl; rfl; exact (flatWords_nil _); (exact atks); rintro v' H' ⟨rfl, rfl⟩; all_goals ((try simp only [List.nil_append]); (refine apk ?_))) | ((with_reducible apply kx_call (f := 76) (cap := [])); exact goesOf Tryz.func76 (by kernel_rfl) rfl; rfl; rfl; exact (flatInts_nil _); (exact atks); rintro v' H' ⟨rfl, rfl⟩; all_goals ((try simp only [List.nil_append]); (refine apk ?_))) | ((with_reducible apply kx_call (f := 77) (cap := [])); exact goesOf Tryz.func77 (by kernel_rfl) rfl; rfl; rfl; exact (flatLongs_nil _); (exact atks); rintro v' H' ⟨rfl, rfl⟩; all_goals ((try simp only [List.nil_append]); (refine apk ?_))) | ((with_reducible apply kx_call (f := 78) (cap := [])); exact goesOf Tryz.func78 (by kernel_rfl) rfl; rfl; rfl; exact (flatTexts_nil _); (exact atks); rintro v' H' ⟨rfl, rfl⟩; all_goals ((try simp only [List.nil_append]); (refine apk ?_))) | ((with_reducible apply kx_call (f := 80) (cap := [])); exact goesOf Tryz.func80 (by kernel_rfl) rfl; rfl; rfl; exact (flatTruths_nil _); (exact atks); rintro v' H' ⟨rfl, rfl⟩; all_goals ((try simp only [List.nil_append]); (refine apk ?_))) | ((with_reducible apply kx_call (f := 81) (cap := [])); exact goesOf Tryz.func81 (by kernel_rfl) rfl; rfl; rfl; exact (flatNodes_nil _); (exact atks); rintro v' H' ⟨rfl, rfl⟩; all_goals ((try simp only [List.nil_append]); (refine apk ?_))) | ((with_reducible apply kx_call (f := 82) (cap := [])); exact goesOf Tryz.func82 (by kernel_rfl) rfl; rfl; rfl; exact (flatInsts_nil _); (exact atks); rintro v' H' ⟨rfl, rfl⟩; all_goals ((try simp only [List.nil_append]); (refine apk ?_))) | ((with_reducible apply kx_call (f := 83) (cap := [])); exact goesOf Tryz.func83 (by kernel_rfl) rfl; rfl; rfl; exact (flatQueries_nil _); (exact atks); rintro v' H' ⟨rfl, rfl⟩; all_goals ((try simp only [List.nil_append]); (refine apk ?_))) | ((with_reducible apply kx_call (f := 84) (cap := [])); exact goesOf Tryz.func84 (by kernel_rfl) rfl; rfl; rfl; exact (flatFiles_nil _); (exact atks); rintro v' H' ⟨rfl, rfl⟩; all_goals ((try simp only [List.nil_append]); (refine apk ?_))) | ((with_reducible apply kx_call (f := 85) (cap := [])); exact goesOf Tryz.func85 (by kernel_rfl) rfl; rfl; rfl; exact (flatDocs_nil _); (exact atks); rintro v' H' ⟨rfl, rfl⟩; all_goals ((try simp only [List.nil_append]); (refine apk ?_))) | ((with_reducible apply kx_call (f := 86) (cap := [])); exact goesOf Tryz.func86 (by kernel_rfl) rfl; rfl; rfl; exact (flatPlaces_nil _); (exact atks); rintro v' H' ⟨rfl, rfl⟩; all_goals ((try simp only [List.nil_append]); (refine apk ?_))) | ((with_reducible apply kx_call (f := 87) (cap := [])); exact goesOf Tryz.func87 (by kernel_rfl) rfl; rfl; rfl; exact (flatPostings_nil _); (exact atks); rintro v' H' ⟨rfl, rfl⟩; all_goals ((try simp only [List.nil_append]); (refine apk ?_))) | ((with_reducible apply kx_call (f := 88) (cap := [])); exact goesOf Tryz.func88 (by kernel_rfl) rfl; rfl; rfl; exact (flatShardRefs_nil _); (exact atks); rintro v' H' ⟨rfl, rfl⟩; all_goals ((try simp only [List.nil_append]); (refine apk ?_))) | ((with_reducible apply kx_call (f := 89) (cap := [])); exact goesOf Tryz.func89 (by kernel_rfl) rfl; rfl; rfl; exact (flatManifests_nil _); (exact atks); rintro v' H' ⟨rfl, rfl⟩; all_goals ((try simp only [List.nil_append]); (refine apk ?_))) | ((with_reducible apply kx_call (f := 90) (cap := [])); exact goesOf Tryz.func90 (by kernel_rfl) rfl; rfl; rfl; exact (flatAsks_nil _); (exact atks); rintro v' H' ⟨rfl, rfl⟩; all_goals ((try simp only [List.nil_append]); (refine apk ?_))) | ((with_reducible apply kx_call (f := 91) (cap := [])); exact goesOf Tryz.func91 (by kernel_rfl) rfl; rfl; rfl; exact (flatHits_nil _); (exact atks); rintro v' H' ⟨rfl, rfl⟩; all_goals ((try simp only [List.nil_append]); (refine apk ?_))) | ((with_reducible apply kx_call (f := 92) (cap := [])); exact goesOf Tryz.func92 (by kernel_rfl) rfl; rfl; rfl; exact (flatAnswers_nil _); (exact atks); rintro v' H' ⟨rfl, rfl⟩; all_goals ((try simp only [List.nil_append]); (refine apk ?_))) | ((with_reducible apply kx_call (f := 93) (cap := [])); exact goesOf Tryz.func93 (by kernel_rfl) rfl; rfl; rfl; exact (flatParts_nil _); (exact atks); rintro v' H' ⟨rfl, rfl⟩; all_goals ((try simp only [List.nil_append]); (refine apk ?_))) | ((with_reducible apply kx_call (f := 94) (cap := [])); exact goesOf Tryz.func94 (by kernel_rfl) rfl; rfl; rfl; exact (flatChanges_nil _); (exact atks); rintro v' H' ⟨rfl, rfl⟩; all_goals ((try simp only [List.nil_append]); (refine apk ?_))) | (refine aw0 ?_) | (refine ap2 ?_ ?_ <;> first | exact True.intro | intro h) | (refine aw1 ?_) | (refine abx ?_; intro bb) | (refine abz ?_; intro bz) | (refine ahv ?_; intro v' hv') | (refine aac ?_; intro ac cc) | (refine aw2 ?_) | (refine ap4 ?_ ?_ <;> first | exact True.intro | intro h) | (with_reducible refine tr_two ?_ ?_))
  ((with_reducible apply fp_ret); exact res_1 rfl rfl)
  exact HR.out _ _ _ [] (by (exact atks)) ⟨rfl, rfl⟩
set_option maxRecDepth 10000 in
set_option maxHeartbeats 2000000 in
theorem apartBytes_any (r : Hp) (v : Value) (rows : List RowV) (hv : Els r 1 encS v rows) (hn : rows.length ≤ 1000000) (hl : ∀ x ∈ rows, x.l.length ≤ 100000000) : Tri Tryz.prog r 33 [v] (famL rows.length (fb1 rows) (fb0 rows) 0) fun w H => w = .bool true ∧ H = [] := by
  refine tri_pack ?_
  rw [show (fun h => all (famL rows.length (fb1 rows) (fb0 rows) 0) h) = Fam rows.length (fb1 rows) (fb0 rows) 0 from rfl]
  refine Tri.free2 fun R HR => ?_
  refine fn_of_sw Tryz.func33 rfl _ rfl ?_; simp only [Tryz.ntmps33, List.length_cons, List.length_nil, Nat.reduceAdd, Nat.reduceSub, List.replicate_succ, List.replicate_zero, List.nil_append, List.cons_append]
  refine sw_put (A := RowC 33 1 (.slice none 0 0) 0 []) (RowC.nil _ _) ?_
  repeat' (first | (refine aw0m ?_) | (refine ap2 ?_ ?_ <;> first | exact True.intro | intro h) | (refine aw1m ?_) | (refine abx ?_; intro bb) | (refine abz ?_; intro bz) | (refine ahv ?_; intro v' hv') | (refine aac ?_; intro ac cc) | (refine aw2 ?_) | (refine ap4 ?_ ?_ <;> first | exact True.intro | intro h) | (with_reducible refine tr_two ?_ ?_))
  refine sw_loop (fun gm t H' => ∃ (k : Nat) (w : Value), gm = rows.length + 1 - k ∧ (k ≤ rows.length) ∧ (∃ G, Takes [pt bb (bagO w), RowC 33 1 w k ((rows.take k).flatMap encS), Fam rows.length (fb1 rows) (fb0 rows) 0] H' G) ∧ (t.length = 21 ∧ t[0]? = some (v) ∧ t[3]? = some (.pointer (some ⟨bb, 0, none⟩)) ∧ t[4]? = some (.int .i64 k))) _ ⟨0, _, rfl, Nat.zero_le _, ⟨[], by (exact atks)⟩, rfl, (by first | rfl | exact congrArg some (congrArg (Value.int _) (by omega)) | exact congrArg some (congrArg (fun n => Value.slice _ n _) (by omega)) | (congr 2 <;> omega)), (by first | rfl | exact congrArg some (congrArg (Value.int _) (by omega)) | exact congrArg some (congrArg (fun n => Value.slice _ n _) (by omega)) | (congr 2 <;> omega)), (by first | rfl | exact congrArg some (congrArg (Value.int _) (by omega)) | exact congrArg some (congrArg (fun n => Value.slice _ n _) (by omega)) | (congr 2 <;> omega))⟩ ?_
  rintro gm t H' ⟨k, w, rfl, hk, ⟨G, hp⟩, hlen, e0, e3, e4⟩
  revert e0 e3 e4; revert t; refine all_len (n := 21) ?_; iterate 21 intro uu'
  intro e0 e3 e4; cases e0; cases e3; cases e4
  refine sw_takeG hp ?_
  clear hp
  by_cases hlt : k < rows.length
  · repeat' (first | ((with_reducible apply kx_call (f := 69) (cap := [])); exact goesOf Tryz.func69 (by kernel_rfl) rfl; rfl; rfl; exact (putBytes_any r bb w k ((rows.take k).flatMap encS) (rows.getD k default).a (rows.getD k default).l.length (rows.getD k default).c (by omega)); (exact atks); rintro v' H' ⟨a1, c1, rfl⟩; all_goals ((try simp only [List.cons_append, List.nil_append]); (refine apk ?_))) | (refine aw0 ?_) | (refine ap2 ?_ ?_ <;> first | exact True.intro | intro h) | (refine aw1 ?_) | (refine abx ?_; intro bb) | (refine abz ?_; intro bz) | (refine ahv ?_; intro v' hv') | (refine aac ?_; intro ac cc) | (refine aw2 ?_) | (refine ap4 ?_ ?_ <;> first | exact True.intro | intro h) | (with_reducible refine tr_two ?_ ?_))
    exact ⟨_, (by omega), k + 1, .slice a1 (k + 1) c1, rfl, by omega, ⟨_, by rw [take_getD (d := default) hlt, List.flatMap_append]; (exact atks)⟩, rfl, (by first | rfl | exact congrArg some (congrArg (Value.int _) (by omega)) | exact congrArg some (congrArg (fun n => Value.slice _ n _) (by omega)) | (congr 2 <;> omega)), (by first | rfl | exact congrArg some (congrArg (Value.int _) (by omega)) | exact congrArg some (congrArg (fun n => Value.slice _ n _) (by omega)) | (congr 2 <;> omega)), (by first | rfl | exact congrArg some (congrArg (Value.int _) (by omega)) | exact congrArg some (congrArg (fun n => Value.slice _ n _) (by omega)) | (congr 2 <;> omega))⟩
  · obtain rfl : k = rows.length := by omega
    rw [List.take_length]
    repeat' (first | ((with_reducible apply kx_call (f := 40) (cap := [])); exact goesOf Tryz.func40 (by kernel_rfl) rfl; rfl; rfl; exact (apart_any r bb w rows hn hl); (exact atks); rintro v' H' ⟨rfl, rfl⟩; all_goals ((try simp only [List.nil_append]); (refine apk ?_))) | (refine aw0 ?_) | (refine ap2 ?_ ?_ <;> first | exact True.intro | intro h) | (refine aw1 ?_) | (refine abx ?_; intro bb) | (refine abz ?_; intro bz) | (refine ahv ?_; intro v' hv') | (refine aac ?_; intro ac cc) | (refine aw2 ?_) | (refine ap4 ?_ ?_ <;> first | exact True.intro | intro h) | (with_reducible refine tr_two ?_ ?_))
    ((with_reducible apply fp_ret); exact res_1 rfl rfl)
    exact HR.out _ _ _ [] (by (exact atks)) ⟨rfl, rfl⟩
end Go.Proofs.YtkbajhiahpkgiaaGreat
