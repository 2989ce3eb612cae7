/- mudlarkkit: DocsOf, markDoc, LentDocs, KeptDocs: their contracts. -/
import Derived.Test.YtfgkhkpngnhimaaGreatKk
namespace Go.Proofs.YtfgkhkpngnhimaaGreat
open Go.RowKit Sx

def sizeD : List DocV → Nat
  | [] => 0
  | d :: ds => 1 + d.path.length + d.lang.length + sizeD ds
theorem sizeD_app (l m : List DocV) : sizeD (l ++ m) = sizeD l + sizeD m := by
  induction l with
  | nil => simp [sizeD]
  | cons f l ih => simp only [List.cons_append, sizeD, ih]; omega
theorem sizeD_mem {ds : List DocV} {d : DocV} (h : d ∈ ds) : 1 + d.path.length + d.lang.length ≤ sizeD ds := by
  induction ds with
  | nil => cases h
  | cons g ds ih =>
    rcases List.mem_cons.1 h with rfl | h
    · simp only [sizeD]; omega
    · have := ih h; simp only [sizeD]; omega
theorem sizeD_len (ds : List DocV) : ds.length ≤ sizeD ds := by
  induction ds with
  | nil => simp
  | cons g ds ih => simp only [sizeD, List.length_cons]; omega
set_option maxRecDepth 10000 in
set_option maxHeartbeats 2000000 in
theorem docsOf_any (r : Hp) (v : Value) (ds : List DocV) (most : Nat) (hv : Docs r v ds) (hl : ∀ d ∈ ds, d.path.length ≤ 140737488351232 ∧ d.lang.length ≤ 140737488351232) (hm : most ≤ 1000000) : Tri Tryz.prog r 5 [v, .int .i64 most] [] fun w H => (∃ s : Nat, w = .int .i64 s ∧ (s = sizeD ds ∨ most < s ∧ most < sizeD ds) ∧ s ≤ most + 281474976702465) ∧ H = [] := by
  refine Tri.free2 fun R HR => ?_
  have hlm := maxI hv.2.2.1
  refine fn_of_sw Tryz.func5 rfl _ rfl ?_; simp only [Tryz.ntmps5, List.length_cons, List.length_nil, Nat.reduceAdd, Nat.reduceSub, List.replicate_succ, List.replicate_zero, List.nil_append, List.cons_append]
  repeat' (first | (refine aw0m ?_) | (refine ap2 ?_ ?_ <;> first | exact True.intro | intro h) | (refine aw1m ?_) | (refine abx ?_; intro bb) | (refine abz ?_; intro bz) | (refine ahv ?_; intro v' hv') | (refine aac ?_; intro ac cc) | (refine aw2 ?_) | (refine ap4 ?_ ?_ <;> first | exact True.intro | intro h) | (with_reducible refine tr_two ?_ ?_))
  refine sw_loop (fun gm t H' => ∃ (k : Nat), gm = ds.length + 1 - k ∧ (k ≤ ds.length) ∧ (sizeD (ds.take k) ≤ most + 281474976702465) ∧ (∃ G, Takes [] H' G) ∧ (t.length = 35 ∧ t[0]? = some (v) ∧ t[1]? = some (.int .i64 most) ∧ t[5]? = some (.int .i64 (sizeD (ds.take k) : Nat)) ∧ t[6]? = some (.int .i64 k))) _ ⟨0, rfl, Nat.zero_le _, by simp [sizeD], ⟨[], by (exact atks)⟩, rfl, (by first | rfl | exact congrArg some (congrArg (Value.int _) (by omega)) | (congr 2 <;> omega)), (by first | rfl | exact congrArg some (congrArg (Value.int _) (by omega)) | (congr 2 <;> omega)), (by first | rfl | exact congrArg some (congrArg (Value.int _) (by omega)) | (congr 2 <;> omega)), (by first | rfl | exact congrArg some (congrArg (Value.int _) (by omega)) | (congr 2 <;> omega))⟩ ?_
  rintro gm t H' ⟨k, rfl, hk, hs, ⟨G, hp⟩, hlen, e0, e1, e5, e6⟩
  revert e0 e1 e5 e6; revert t; refine all_len (n := 35) ?_; iterate 35 intro uu'
  intro e0 e1 e5 e6; cases e0; cases e1; cases e5; cases e6
  refine sw_takeG hp ?_
  clear hp
  have hsa := sizeD_app (ds.take k) (ds.drop k)
  rw [List.take_append_drop] at hsa
  by_cases hlt : k < ds.length
  · have hmem : ds.getD k default ∈ ds := by simp [hlt]
    obtain ⟨hl1, hl2⟩ := hl _ hmem
    have hst : sizeD (ds.take (k + 1)) = sizeD (ds.take k) + (1 + (ds.getD k default).path.length + (ds.getD k default).lang.length) := by
      rw [take_getD (d := default) hlt, sizeD_app]; simp [sizeD]
    repeat' (first | (refine aw0m ?_) | (refine ap2 ?_ ?_ <;> first | exact True.intro | intro h) | (first | ((with_reducible apply sw_draw (id := 5) 16 [(0, true), (1, true), (2, true), (3, true), (4, true), (5, true), (6, true), (7, true), (8, true), (9, true), (10, true), (11, true), (12, true), (13, true), (14, true), (15, true)] [(16, false)] []); kernel_rfl; (exact atks); kernel_rfl; intro r' hl')) | (refine aw1m ?_) | (refine abx ?_; intro bb) | (refine abz ?_; intro bz) | (refine ahv ?_; intro v' hv') | (refine aac ?_; intro ac cc) | (refine aw2 ?_) | (refine ap4 ?_ ?_ <;> first | exact True.intro | intro h) | (with_reducible refine tr_two ?_ ?_))
    · exact ⟨_, (by omega), k + 1, rfl, by omega, by omega, ⟨_, by (exact atks)⟩, rfl, (by first | rfl | exact congrArg some (congrArg (Value.int _) (by omega)) | (congr 2 <;> omega)), (by first | rfl | exact congrArg some (congrArg (Value.int _) (by omega)) | (congr 2 <;> omega)), (by first | rfl | exact congrArg some (congrArg (Value.int _) (by omega)) | (congr 2 <;> omega)), (by first | rfl | exact congrArg some (congrArg (Value.int _) (by omega)) | (congr 2 <;> omega))⟩
    · ((with_reducible apply fp_ret); exact res_1 rfl rfl)
      exact HR.out _ _ _ [] (by (exact atks)) ⟨⟨_, rfl, .inr ⟨by omega, by omega⟩, by omega⟩, rfl⟩
  · obtain rfl : k = ds.length := by omega
    rw [List.take_length] at *
    repeat' (first | (refine aw0m ?_) | (refine ap2 ?_ ?_ <;> first | exact True.intro | intro h) | (refine aw1m ?_) | (refine abx ?_; intro bb) | (refine abz ?_; intro bz) | (refine ahv ?_; intro v' hv') | (refine aac ?_; intro ac cc) | (refine aw2 ?_) | (refine ap4 ?_ ?_ <;> first | exact True.intro | intro h) | (with_reducible refine tr_two ?_ ?_))
    ((with_reducible apply fp_ret); exact res_1 rfl rfl)
    exact HR.out _ _ _ [] (by (exact atks)) ⟨⟨_, rfl, .inl rfl, by omega⟩, rfl⟩
def markD (k i : Nat) : DocV := ⟨[], [], 0, markN k i⟩
set_option maxHeartbeats 1000000 in
theorem markDoc_any (r : Hp) (k i : Nat) (hk : k ≤ 100000000 := by omega) (hi : i ≤ 1000000000 := by omega) : Tri Tryz.prog r 23 [.int .i64 k, .int .i64 i] [] fun w H => w = .agg (encD (markD k i)).toArray ∧ H = [] := by
  refine Tri.free2 fun R HR => ?_
  refine fn_of_sw Tryz.func23 rfl _ rfl ?_; simp only [Tryz.ntmps23, List.length_cons, List.length_nil, Nat.reduceAdd, Nat.reduceSub, List.replicate_succ, List.replicate_zero, List.nil_append, List.cons_append]
  repeat' (first | (refine aw0m ?_) | (refine ap2 ?_ ?_ <;> first | exact True.intro | intro h) | ((with_reducible apply kx_call (f := 58) (cap := [])); exact goesOf Tryz.func58 (by kernel_rfl) rfl; rfl; rfl; exact (mark_any r k i); (exact atks); rintro v' H' ⟨rfl, rfl⟩; all_goals ((try simp only [List.nil_append]); (refine apk ?_))) | (refine aw1m ?_) | (refine abx ?_; intro bb) | (refine abz ?_; intro bz) | (refine ahv ?_; intro v' hv') | (refine aac ?_; intro ac cc) | (refine aw2 ?_) | (refine ap4 ?_ ?_ <;> first | exact True.intro | intro h) | (with_reducible refine tr_two ?_ ?_))
  ((with_reducible apply fp_ret); exact res_W rfl rfl (by (exact atk)) ty_agg ty_size rfl)
  exact HR.out _ _ _ [] (by (exact atks)) ⟨rfl, rfl⟩
def marksD (n : Nat) : List DocV := (List.range n).map (markD 1)
theorem marksD_succ (n : Nat) : marksD (n + 1) = marksD n ++ [markD 1 n] := by simp [marksD, List.range_succ]
theorem encD_one (ds : List DocV) : (ds.flatMap encD).all one? = true := by
  induction ds with
  | nil => rfl
  | cons d ds ih => simp only [List.flatMap_cons, List.all_append, ih]; rfl
set_option maxRecDepth 10000 in
set_option maxHeartbeats 2000000 in
theorem lentDocs_any (r : Hp) (v : Value) (ds : List DocV) (hv : Docs r v ds) (hl : ds.length ≤ 1000000) : Tri Tryz.prog r 7 [v] [] fun w H => ∃ a c, w = .slice a ds.length c ∧ ds.length + 12 ≤ c ∧ H = [RowC 47 4 (.slice a (ds.length + 12) c) (ds.length + 12) ((ds ++ marksD 12).flatMap encD)] := by
  refine Tri.free2 fun R HR => ?_
  have hv1 := hv.2
  refine fn_of_sw Tryz.func7 rfl _ rfl ?_; simp only [Tryz.ntmps7, List.length_cons, List.length_nil, Nat.reduceAdd, Nat.reduceSub, List.replicate_succ, List.replicate_zero, List.nil_append, List.cons_append]
  repeat' (first | ((with_reducible apply kx_make0 (c := ds.length + 12)); exact ty_el; exact ty_inf; rfl; rfl; (omega); (omega); intro bm; (refine apk ?_)) | ((with_reducible apply kx_appS (news := ds.flatMap encD)); exact ty_el; exact ty_inf; rfl; rfl; rfl; rfl; exact hv1; (exact atk); exact encD_one ds; (unfold maxLen; omega); (omega); intro a' c'; (refine apk ?_)) | (refine aw0 ?_) | (refine ap2 ?_ ?_ <;> first | exact True.intro | intro h) | (refine aw1 ?_) | (refine abx ?_; intro bb) | (refine abz ?_; intro bz) | (refine ahv ?_; intro v' hv') | (refine aac ?_; intro ac cc) | (refine aw2 ?_) | (refine ap4 ?_ ?_ <;> first | exact True.intro | intro h) | (with_reducible refine tr_two ?_ ?_))
  simp only [Nat.zero_add, List.nil_append]
  refine sw_loop (fun gm t H' => ∃ (k : Nat) (a : Option Addr) (c : Nat), gm = 13 - k ∧ (k ≤ 12) ∧ (∃ G, Takes [RowC 47 4 (.slice a (ds.length + k) c) (ds.length + k) ((ds ++ marksD k).flatMap encD)] H' G) ∧ (t.length = 25 ∧ t[0]? = some (v) ∧ t[3]? = some (.slice a (ds.length + k) c) ∧ t[4]? = some (.int .i64 k))) _ ⟨0, a', c', rfl, Nat.zero_le _, ⟨[], by rw [show marksD 0 = [] from rfl, List.append_nil]; (exact atks)⟩, rfl, (by first | rfl | exact congrArg some (congrArg (Value.int _) (by omega)) | (congr 2 <;> omega)), (by first | rfl | exact congrArg some (congrArg (Value.int _) (by omega)) | (congr 2 <;> omega)), (by first | rfl | exact congrArg some (congrArg (Value.int _) (by omega)) | (congr 2 <;> omega))⟩ ?_
  rintro gm t H' ⟨k, a, c, rfl, hk, ⟨G, hp⟩, hlen, e0, e3, e4⟩
  revert e0 e3 e4; revert t; refine all_len (n := 25) ?_; iterate 25 intro uu'
  intro e0 e3 e4; cases e0; cases e3; cases e4
  refine sw_takeG hp ?_
  clear hp
  refine sw_fact (by (exact atk)) (fun g h => RowC.cap h) ?_
  rintro ⟨hcap, hcm⟩
  have hcm := maxI hcm
  repeat' (first | (refine aw0m ?_) | (refine ap2 ?_ ?_ <;> first | exact True.intro | intro h) | ((with_reducible apply kx_call (f := 23) (cap := [])); exact goesOf Tryz.func23 (by kernel_rfl) rfl; rfl; rfl; exact (markDoc_any r 1 k); (exact atks); rintro v' H' ⟨rfl, rfl⟩; all_goals ((try simp only [List.nil_append]); (refine apk ?_))) | (first | ((with_reducible apply kx_bs1); exact ty_el; exact ty_inf; rfl; rfl; rfl; intro bz; (refine apk ?_)) | ((with_reducible apply kx_bsN); exact ty_el; exact ty_inf; rfl; rfl; rfl; intro bz; (refine apk ?_))) | (first | ((with_reducible apply kx_append1); exact ty_el; exact ty_inf; rfl; rfl; rfl; (exact atk); (exact atk); rfl; (omega); intro a' c'; (refine apk ?_)) | ((with_reducible apply kx_appendN); exact ty_el; exact ty_inf; rfl; rfl; rfl; rfl; (exact atk); (exact atk); rfl; rfl; (omega); intro a' c'; (refine apk ?_))) | (refine aw1m ?_) | (refine abx ?_; intro bb) | (refine abz ?_; intro bz) | (refine ahv ?_; intro v' hv') | (refine aac ?_; intro ac cc) | (refine aw2 ?_) | (refine ap4 ?_ ?_ <;> first | exact True.intro | intro h) | (with_reducible refine tr_two ?_ ?_))
  · exact ⟨_, (by omega), k + 1, a', c', rfl, by omega, ⟨_, by rw [marksD_succ, ← List.append_assoc, List.flatMap_append]; (exact atks)⟩, rfl, (by first | rfl | exact congrArg some (congrArg (Value.int _) (by omega)) | (congr 2 <;> omega)), (by first | rfl | exact congrArg some (congrArg (Value.int _) (by omega)) | (congr 2 <;> omega)), (by first | rfl | exact congrArg some (congrArg (Value.int _) (by omega)) | (congr 2 <;> omega))⟩
  · obtain rfl : k = 12 := by omega
    ((with_reducible apply fp_ret); exact res_1 rfl rfl)
    exact HR.out _ _ _ [RowC _ _ _ _ _] (by (exact atks)) ⟨_, _, rfl, hcap, rfl⟩
set_option maxRecDepth 10000 in
set_option maxHeartbeats 2000000 in
theorem keptDocs_any (r : Hp) (a : Option Addr) (c : Nat) (w : Value) (ds : List DocV) (hc : ds.length + 12 ≤ c) (hv : Docs r (.slice a (ds.length + 12) c) (ds ++ marksD 12)) (hw : Docs r w ds) : Tri Tryz.prog r 16 [.slice a ds.length c, w] [] fun u H => u = .bool true ∧ H = [] := by
  refine Tri.free2 fun R HR => ?_
  have hlen : (ds ++ marksD 12).length = ds.length + 12 := by simp [marksD]
  have hlm : ds.length + 12 ≤ 9223372036854775807 := by have := maxI hv.2.2.1; omega
  refine fn_of_sw Tryz.func16 rfl _ rfl ?_; simp only [Tryz.ntmps16, List.length_cons, List.length_nil, Nat.reduceAdd, Nat.reduceSub, List.replicate_succ, List.replicate_zero, List.nil_append, List.cons_append]
  repeat' (first | (refine aw0m ?_) | (refine ap2 ?_ ?_ <;> first | exact True.intro | intro h) | (refine aw1m ?_) | (refine abx ?_; intro bb) | (refine abz ?_; intro bz) | (refine ahv ?_; intro v' hv') | (refine aac ?_; intro ac cc) | (refine aw2 ?_) | (refine ap4 ?_ ?_ <;> first | exact True.intro | intro h) | (with_reducible refine tr_two ?_ ?_))
  refine sw_loop (fun gm t H' => ∃ k : Nat, gm = ds.length + 13 - k ∧ (k ≤ ds.length + 12) ∧ (∃ G, Takes [] H' G) ∧ (t.length = 58 ∧ t[1]? = some (w) ∧ t[5]? = some (.slice a (ds.length + 12) c) ∧ t[6]? = some (.int .i64 k))) _ ⟨0, rfl, Nat.zero_le _, ⟨[], by (exact atks)⟩, rfl, (by first | rfl | exact congrArg some (congrArg (Value.int _) (by omega)) | (congr 2 <;> omega)), (by first | rfl | exact congrArg some (congrArg (Value.int _) (by omega)) | (congr 2 <;> omega)), (by first | rfl | exact congrArg some (congrArg (Value.int _) (by omega)) | (congr 2 <;> omega))⟩ ?_
  rintro gm t H' ⟨k, rfl, hk, ⟨G, hp⟩, hlen, e1, e5, e6⟩
  revert e1 e5 e6; revert t; refine all_len (n := 58) ?_; iterate 58 intro uu'
  intro e1 e5 e6; cases e1; cases e5; cases e6
  refine sw_takeG hp ?_
  clear hp
  by_cases hkl : k < ds.length
  · have he : (ds ++ marksD 12).getD k default = ds.getD k default := by simp [List.getElem?_append_left hkl]
    repeat' (first | (refine aw0m ?_) | (refine ap2 ?_ ?_ <;> first | exact True.intro | intro h) | (first | ((with_reducible apply sw_draw (id := 7) 35 [(0, true), (1, true), (2, true), (3, true), (4, true), (5, true), (6, true), (7, true), (8, true), (9, true), (10, true), (11, true), (12, true), (13, true), (14, true), (15, true), (16, true), (17, true), (18, true), (19, true), (20, true), (21, true), (22, true), (23, true), (24, true), (25, true), (26, true), (27, true), (28, true), (29, true), (30, false), (31, true), (32, true), (33, true), (34, true)] [] []); kernel_rfl; (exact atks); kernel_rfl; intro r' hl')) | (refine aw1m ?_) | (refine abx ?_; intro bb) | (refine abz ?_; intro bz) | (refine ahv ?_; intro v' hv') | (refine aac ?_; intro ac cc) | (refine aw2 ?_) | (refine ap4 ?_ ?_ <;> first | exact True.intro | intro h) | (with_reducible refine tr_two ?_ ?_))
    all_goals first | (exfalso; rw [he] at h; simp at h; done) | exact ⟨_, (by omega), k + 1, rfl, by omega, ⟨_, by (exact atks)⟩, rfl, (by first | rfl | exact congrArg some (congrArg (Value.int _) (by omega)) | (congr 2 <;> omega)), (by first | rfl | exact congrArg some (congrArg (Value.int _) (by omega)) | (congr 2 <;> omega)), (by first | rfl | exact congrArg some (congrArg (Value.int _) (by omega)) | (congr 2 <;> omega))⟩
  · by_cases hk2 : k < ds.length + 12
    · obtain ⟨j, rfl⟩ : ∃ j, k = ds.length + j := ⟨k - ds.length, by omega⟩
      have he : (ds ++ marksD 12).getD (ds.length + j) default = markD 1 j := by
        simp only [List.getD_eq_getElem?_getD]
        rw [List.getElem?_append_right (by omega)]
        simp [marksD, show j < 12 by omega]
      repeat' (first | (refine aw0m ?_) | (refine ap2 ?_ ?_ <;> first | exact True.intro | intro h) | (first | ((with_reducible apply sw_draw (id := 7) 35 [(0, true), (1, true), (2, true), (3, true), (4, true), (5, true), (6, true), (7, true), (8, true), (9, true), (10, true), (11, true), (12, true), (13, true), (14, true), (15, true), (16, true), (17, true), (18, true), (19, true), (20, true), (21, true), (22, true), (23, true), (24, true), (25, true), (26, true), (27, true), (28, true), (29, true), (30, false), (31, true), (32, true), (33, true), (34, true)] [] []); kernel_rfl; (exact atks); kernel_rfl; intro r' hl')) | ((with_reducible apply kx_call (f := 23) (cap := [])); exact goesOf Tryz.func23 (by kernel_rfl) rfl; rfl; rfl; exact (by rw [show (((ds.length + j : Nat) : Int) - (ds.length : Nat)) = ((j : Nat) : Int) by omega]; exact markDoc_any _ 1 j); (exact atks); rintro v' H' ⟨rfl, rfl⟩; all_goals ((try simp only [List.nil_append]); (refine apk ?_))) | (refine aw1m ?_) | (refine abx ?_; intro bb) | (refine abz ?_; intro bz) | (refine ahv ?_; intro v' hv') | (refine aac ?_; intro ac cc) | (refine aw2 ?_) | (refine ap4 ?_ ?_ <;> first | exact True.intro | intro h) | (with_reducible refine tr_two ?_ ?_))
      all_goals first | (exfalso; rw [he] at h; simp [markD] at h; done) | exact ⟨_, (by omega), ds.length + j + 1, rfl, by omega, ⟨_, by (exact atks)⟩, rfl, (by first | rfl | exact congrArg some (congrArg (Value.int _) (by omega)) | (congr 2 <;> omega)), (by first | rfl | exact congrArg some (congrArg (Value.int _) (by omega)) | (congr 2 <;> omega)), (by first | rfl | exact congrArg some (congrArg (Value.int _) (by omega)) | (congr 2 <;> omega))⟩
    · repeat' (first | (refine aw0m ?_) | (refine ap2 ?_ ?_ <;> first | exact True.intro | intro h) | (refine aw1m ?_) | (refine abx ?_; intro bb) | (refine abz ?_; intro bz) | (refine ahv ?_; intro v' hv') | (refine aac ?_; intro ac cc) | (refine aw2 ?_) | (refine ap4 ?_ ?_ <;> first | exact True.intro | intro h) | (with_reducible refine tr_two ?_ ?_))
      ((with_reducible apply fp_ret); exact res_1 rfl rfl)
      exact HR.out _ _ _ [] (by (exact atks)) ⟨rfl, rfl⟩
end Go.Proofs.YtfgkhkpngnhimaaGreat
