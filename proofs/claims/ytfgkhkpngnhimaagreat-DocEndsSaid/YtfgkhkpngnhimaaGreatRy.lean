/- mudlarkref22.Put, Find: their contracts. -/
import Derived.Test.YtfgkhkpngnhimaaGreatRx
import Derived.Test.YtfgkhkpngnhimaaGreatRtp
namespace Go.Proofs.YtfgkhkpngnhimaaGreat
open Go.RowKit Sx

theorem Sx.RowC.form {E : TypeId} {sz n : Nat} {v : Value} {xs : List Value} {g : Hp} (h : RowC E sz v n xs g) : ∃ a c, v = .slice a n c := (h.sl (r := g) (fun _ _ h => h)).form
set_option maxRecDepth 10000 in
set_option maxHeartbeats 2000000 in
theorem rfind_any (r : Hp) (v : Value) (ds : List DocV) (hv : Docs r v ds) (s : List UInt8) : Tri Tryz.prog r 14 [v, .string (bs s)] [] fun w H => w = .int .i64 (idx (ds.findIdx? fun d => decide (d.path = s))) ∧ H = [] := by
  refine Tri.free2 fun R HR => ?_
  have hlm := maxI hv.2.2.1
  refine fn_of_sw Tryz.func14 rfl _ rfl ?_; simp only [Tryz.ntmps14, List.length_cons, List.length_nil, Nat.reduceAdd, Nat.reduceSub, List.replicate_succ, List.replicate_zero, List.nil_append, List.cons_append]
  repeat' (first | (refine aw0m ?_) | (refine ap2 ?_ ?_ <;> first | exact True.intro | intro h) | (refine aw1m ?_) | (refine abx ?_; intro bb) | (refine abz ?_; intro bz) | (refine ahv ?_; intro v' hv') | (refine aac ?_; intro ac cc) | (refine aw2 ?_) | (refine ap4 ?_ ?_ <;> first | exact True.intro | intro h) | (with_reducible refine tr_two ?_ ?_))
  refine sw_loop (fun gm t H' => ∃ k : Nat, gm = ds.length + 1 - k ∧ (k ≤ ds.length) ∧ ((ds.take k).findIdx? (fun d => decide (d.path = s)) = none) ∧ (∃ G, Takes [] H' G) ∧ (t.length = 20 ∧ t[0]? = some (v) ∧ t[1]? = some (.string (bs s)) ∧ t[5]? = some (.int .i64 k))) _ ⟨0, rfl, Nat.zero_le _, by simp, ⟨[], by (exact atks)⟩, rfl, (by first | rfl | exact congrArg some (congrArg (Value.int _) (by omega)) | (congr 2 <;> omega)), (by first | rfl | exact congrArg some (congrArg (Value.int _) (by omega)) | (congr 2 <;> omega)), (by first | rfl | exact congrArg some (congrArg (Value.int _) (by omega)) | (congr 2 <;> omega))⟩ ?_
  rintro gm t H' ⟨k, rfl, hk, hf, ⟨G, hp⟩, hlen, e0, e1, e5⟩
  revert e0 e1 e5; revert t; refine all_len (n := 20) ?_; iterate 20 intro uu'
  intro e0 e1 e5; cases e0; cases e1; cases e5
  refine sw_takeG hp ?_
  clear hp
  by_cases hlt : k < ds.length
  · have e := find_app (q := fun d : DocV => decide (d.path = s)) hlt hf
    have e2 : ds[k] = ds.getD k default := by simp [hlt]
    rw [e2] at e
    repeat' (first | (refine aw0m ?_) | (refine ap2 ?_ ?_ <;> first | exact True.intro | intro h) | (refine aw1m ?_) | (refine abx ?_; intro bb) | (refine abz ?_; intro bz) | (refine ahv ?_; intro v' hv') | (refine aac ?_; intro ac cc) | (refine aw2 ?_) | (refine ap4 ?_ ?_ <;> first | exact True.intro | intro h) | (with_reducible refine tr_two ?_ ?_))
    · ((with_reducible apply fp_ret); exact res_1 rfl rfl)
      have h2 : ds.findIdx? (fun d => decide (d.path = s)) = some k := by
        rw [if_pos (by simpa using h)] at e
        rw [← List.take_append_drop (k + 1) ds, List.findIdx?_append, e]
        rfl
      exact HR.out _ _ _ [] (by (exact atks)) ⟨by rw [h2]; rfl, rfl⟩
    · exact ⟨_, (by omega), k + 1, rfl, by omega, by rw [e, if_neg (by simpa using h)], ⟨_, by (exact atks)⟩, rfl, (by first | rfl | exact congrArg some (congrArg (Value.int _) (by omega)) | (congr 2 <;> omega)), (by first | rfl | exact congrArg some (congrArg (Value.int _) (by omega)) | (congr 2 <;> omega)), (by first | rfl | exact congrArg some (congrArg (Value.int _) (by omega)) | (congr 2 <;> omega))⟩
  · obtain rfl : k = ds.length := by omega
    rw [List.take_length] at hf
    repeat' (first | (refine aw0m ?_) | (refine ap2 ?_ ?_ <;> first | exact True.intro | intro h) | (refine aw1m ?_) | (refine abx ?_; intro bb) | (refine abz ?_; intro bz) | (refine ahv ?_; intro v' hv') | (refine aac ?_; intro ac cc) | (refine aw2 ?_) | (refine ap4 ?_ ?_ <;> first | exact True.intro | intro h) | (with_reducible refine tr_two ?_ ?_))
    ((with_reducible apply fp_ret); exact res_1 rfl rfl)
    exact HR.out _ _ _ [] (by (exact atks)) ⟨by rw [hf]; rfl, rfl⟩
theorem docsOk_each {ds : List DocV} (h : docsOk ds = true) : ds.length ≤ 4000 ∧ ∀ d ∈ ds, d.path.length ≤ 200 ∧ 0 ≤ d.size ∧ d.size ≤ 1048576 := by
  unfold docsOk at h
  simp only [Bool.and_eq_true, decide_eq_true_eq] at h
  obtain ⟨⟨h1, h2⟩, h3⟩ := h
  refine ⟨h1, fun d hd => ⟨pathOk_len (ordOk_mem h3 (List.mem_map.2 ⟨d, hd, rfl⟩)), ?_⟩⟩
  simp only [Bool.not_eq_true', List.any_eq_false] at h2
  have := h2 d hd
  simp [docBad] at this
  exact ⟨this.1.2, this.2⟩
set_option maxRecDepth 10000 in
set_option maxHeartbeats 2000000 in
theorem rput_any (r : Hp) (v : Value) (ds : List DocV) (hv : Docs r v ds) (hl : ∀ x ∈ ds, x.path.length ≤ 1000000) (hsum : ∀ x ∈ ds, x.sum < 4294967296) : Tri Tryz.prog r 9 [v] [] fun w H =>
    if docsOk ds then ∃ a c, w = .tuple #[.slice a (putBytes ds).length c, .int .i64 0] ∧ H = [U8R (.slice a (putBytes ds).length c) (putBytes ds)] else w = .tuple #[.slice none 0 0, .int .i64 2] ∧ H = [] := by
  refine Tri.free2 fun R HR => ?_
  have hlm := maxI hv.2.2.1
  have hrd := rdocs_any r v ds hv hl
  rw [refDocs_eq] at hrd
  cases hok : docsOk ds
  · rw [hok] at hrd HR
    refine fn_of_sw Tryz.func9 rfl _ rfl ?_; simp only [Tryz.ntmps9, List.length_cons, List.length_nil, Nat.reduceAdd, Nat.reduceSub, List.replicate_succ, List.replicate_zero, List.nil_append, List.cons_append]
    repeat' (first | (refine aw0m ?_) | (refine ap2 ?_ ?_ <;> first | exact True.intro | intro h) | ((with_reducible apply kx_call (f := 11) (cap := [])); exact goesOf Tryz.func11 (by kernel_rfl) rfl; rfl; rfl; exact (hrd); (exact atks); rintro v' H' ⟨rfl, rfl⟩; all_goals ((try simp only [List.nil_append]); (refine apk ?_))) | (refine aw1m ?_) | (refine abx ?_; intro bb) | (refine abz ?_; intro bz) | (refine ahv ?_; intro v' hv') | (refine aac ?_; intro ac cc) | (refine aw2 ?_) | (refine ap4 ?_ ?_ <;> first | exact True.intro | intro h) | (with_reducible refine tr_two ?_ ?_))
    ((with_reducible apply fp_ret); exact res_2 rfl rfl rfl)
    exact HR.out _ _ _ [] (by (exact atks)) ⟨rfl, rfl⟩
  · rw [hok] at hrd HR
    obtain ⟨hn4, heach⟩ := docsOk_each hok
    refine fn_of_sw Tryz.func9 rfl _ rfl ?_; simp only [Tryz.ntmps9, List.length_cons, List.length_nil, Nat.reduceAdd, Nat.reduceSub, List.replicate_succ, List.replicate_zero, List.nil_append, List.cons_append]
    refine sw_put (A := U8R (.slice none 0 0) []) (RowC.nil _ _) ?_
    repeat' (first | ((with_reducible apply kx_call (f := 11) (cap := [])); exact goesOf Tryz.func11 (by kernel_rfl) rfl; rfl; rfl; exact (hrd); (exact atks); rintro v' H' ⟨rfl, rfl⟩; all_goals ((try simp only [List.nil_append]); (refine apk ?_))) | ((with_reducible apply kx_box); rfl; exact cells_agg; intro bw; (refine apk ?_)) | ((with_reducible apply kx_call (f := 28) (cap := [])); exact goesOf Tryz.func28 (by kernel_rfl) rfl; rfl; rfl; exact (rwnum_any r bw (.slice none 0 0) [] ds.length (by unfold maxNum; omega) (by simp)); (exact atks); rintro v' H' ⟨v1, rfl⟩; all_goals ((try simp only [List.cons_append, List.nil_append]); (refine apk ?_))) | (refine aw0 ?_) | (refine ap2 ?_ ?_ <;> first | exact True.intro | intro h) | (refine aw1 ?_) | (refine abx ?_; intro bb) | (refine abz ?_; intro bz) | (refine ahv ?_; intro v' hv') | (refine aac ?_; intro ac cc) | (refine aw2 ?_) | (refine ap4 ?_ ?_ <;> first | exact True.intro | intro h) | (with_reducible refine tr_two ?_ ?_))
    refine sw_loop (fun gm t H' => ∃ (k : Nat) (w : Value), gm = ds.length + 1 - k ∧ (k ≤ ds.length) ∧ (∃ G, Takes [pt bw (rwr w false), U8R w (septs ds.length ++ (ds.take k).flatMap putDoc)] H' G) ∧ (t.length = 47 ∧ t[0]? = some (v) ∧ t[4]? = some (.pointer (some ⟨bw, 0, none⟩)) ∧ t[5]? = some (.int .i64 k))) _ ⟨0, v1, rfl, Nat.zero_le _, ⟨[], by rw [show (ds.take 0).flatMap putDoc = [] from rfl, List.append_nil]; (exact atks)⟩, rfl, (by first | rfl | exact congrArg some (congrArg (Value.int _) (by omega)) | (congr 2 <;> omega)), (by first | rfl | exact congrArg some (congrArg (Value.int _) (by omega)) | (congr 2 <;> omega)), (by first | rfl | exact congrArg some (congrArg (Value.int _) (by omega)) | (congr 2 <;> omega))⟩ ?_
    rintro gm t H' ⟨k, w, rfl, hk, ⟨G, hp⟩, hlen, e0, e4, e5⟩
    revert e0 e4 e5; revert t; refine all_len (n := 47) ?_; iterate 47 intro uu'
    intro e0 e4 e5; cases e0; cases e4; cases e5
    refine sw_takeG hp ?_
    clear hp
    by_cases hlt : k < ds.length
    · have hmem : ds.getD k default ∈ ds := by simp [hlt]
      obtain ⟨hp2, hz1, hz2⟩ := heach _ hmem
      have hs1 := hsum _ hmem
      have hsz : (ds.getD k default).size = ((ds.getD k default).size.toNat : Nat) := by omega
      have hnext : septs ds.length ++ (ds.take k).flatMap putDoc ++ texts (ds.getD k default).path ++ fixed (ds.getD k default).sum ++ septs (ds.getD k default).size.toNat = septs ds.length ++ (ds.take (k + 1)).flatMap putDoc := by
        rw [take_getD (d := default) hlt, List.flatMap_append]
        simp [putDoc]
      have h6 := septs_len6 (n := ds.length) (by unfold maxNum; omega)
      have h7 := putDocs_len (ds := ds.take k) fun d hd => by
        have := heach d (List.mem_of_mem_take hd)
        exact ⟨by omega, this.2.2⟩
      have h8 : (texts (ds.getD k default).path).length ≤ 206 := by
        have := septs_len6 (n := (ds.getD k default).path.length) (by unfold maxNum; omega)
        simp only [texts, List.length_append]; omega
      have h9 : (ds.take k).length ≤ 4000 := by rw [List.length_take]; omega
      have hL : (septs ds.length ++ (ds.take k).flatMap putDoc).length ≤ 5000000000 := by rw [List.length_append]; omega
      generalize septs ds.length ++ (ds.take k).flatMap putDoc = L at hnext hL
      repeat' (first | ((with_reducible apply kx_lendC (A := RdC (.slice ac (ds.getD k default).path.length cc) (ds.getD k default).path)); (exact atk); intro r1 g1 hr1 hg1 hA1; ((with_reducible apply kx_call (f := 29) (cap := [])); exact goesOf Tryz.func29 (by kernel_rfl) rfl; rfl; rfl; exact (rwtext_any r1 bw w L _ (ds.getD k default).path (Sl.mono hA1 hg1) (by omega) (by omega)); (exact atks); rintro v' H' ⟨v2, rfl⟩; all_goals ((try simp only [List.cons_append, List.nil_append]); (refine apk ?_)))) | ((with_reducible apply kx_call (f := 30) (cap := [])); exact goesOf Tryz.func30 (by kernel_rfl) rfl; rfl; rfl; exact (rwfixed_any r bw v2 (L ++ texts (ds.getD k default).path) (ds.getD k default).sum hs1 (by rw [List.length_append]; omega)); (exact atks); rintro v' H' ⟨v3, rfl⟩; all_goals ((try simp only [List.cons_append, List.nil_append]); (refine apk ?_))) | ((with_reducible apply kx_call (f := 28) (cap := [])); exact goesOf Tryz.func28 (by kernel_rfl) rfl; rfl; rfl; exact (by rw [hsz]; exact rwnum_any r bw v3 (L ++ texts (ds.getD k default).path ++ fixed (ds.getD k default).sum) (ds.getD k default).size.toNat (by unfold maxNum; omega) (by rw [List.length_append, List.length_append]; simp only [fixed, List.length_cons, List.length_nil]; omega)); (exact atks); rintro v' H' ⟨v4, rfl⟩; all_goals ((try simp only [List.cons_append, List.nil_append]); (refine apk ?_))) | (refine aw0 ?_) | (refine ap2 ?_ ?_ <;> first | exact True.intro | intro h) | (refine aw1 ?_) | (refine abx ?_; intro bb) | (refine abz ?_; intro bz) | (refine ahv ?_; intro v' hv') | (refine aac ?_; intro ac cc) | (refine aw2 ?_) | (refine ap4 ?_ ?_ <;> first | exact True.intro | intro h) | (with_reducible refine tr_two ?_ ?_))
      exact ⟨_, (by omega), k + 1, v4, rfl, by omega, ⟨_, by rw [← hnext]; (exact atks)⟩, rfl, (by first | rfl | exact congrArg some (congrArg (Value.int _) (by omega)) | (congr 2 <;> omega)), (by first | rfl | exact congrArg some (congrArg (Value.int _) (by omega)) | (congr 2 <;> omega)), (by first | rfl | exact congrArg some (congrArg (Value.int _) (by omega)) | (congr 2 <;> omega))⟩
    · obtain rfl : k = ds.length := by omega
      rw [List.take_length]
      refine sw_fact (A := U8R w (septs ds.length ++ ds.flatMap putDoc)) (by (exact atk)) (fun g h => RowC.form h) ?_
      rintro ⟨a5, c5, rfl⟩
      repeat' (first | (refine aw0m ?_) | (refine ap2 ?_ ?_ <;> first | exact True.intro | intro h) | (refine aw1m ?_) | (refine abx ?_; intro bb) | (refine abz ?_; intro bz) | (refine ahv ?_; intro v' hv') | (refine aac ?_; intro ac cc) | (refine aw2 ?_) | (refine ap4 ?_ ?_ <;> first | exact True.intro | intro h) | (with_reducible refine tr_two ?_ ?_))
      ((with_reducible apply fp_ret); exact res_2 rfl rfl rfl)
      exact HR.out _ _ _ [RowC 5 1 _ _ _] (by (exact atks)) ⟨a5, c5, rfl, rfl⟩
end Go.Proofs.YtfgkhkpngnhimaaGreat
