/- mudlarklaw06.LangKnown: its contract. -/
import Derived.Test.YtkbajhiahpkgiaaAl
import Derived.Test.YtkbajhiahpkgiaaLaws06
import Derived.Lib.IndexAny
namespace Go.Proofs.Ytkbajhiahpkgiaa
open Go.RowKit Sx

theorem awake06_tri (r : Hp) : Tri Try.prog r 6 [] [] fun w H => w = .bool true ∧ H = [] := tri_ext fun w => awake_any w
def encT (s : List UInt8) : List Value := [.string (bs s)]
theorem allL_rise {k : Nat} (h : k < 16) : Op.bytesLess (allL.getD k default) (allL.getD (k + 1) default) = true := by
  have h2 : ((List.range 16).all fun k => Op.bytesLess (allL.getD k default) (allL.getD (k + 1) default)) = true := by kernel_rfl
  exact List.all_eq_true.1 h2 k (List.mem_range.2 h)
theorem idx_of {l : List UInt8} (h : (46 : UInt8) ∈ l) : 0 ≤ Lib.indexByte l 46 := by
  have := Lib.contains_iff_indexByte l 46
  rw [List.contains_eq_mem, decide_eq_true h] at this
  exact of_decide_eq_true this.symm
set_option maxRecDepth 10000 in
set_option maxHeartbeats 1000000 in
theorem langKnown_any (r : Hp) (s : List UInt8) (hs : s.length ≤ 140737488351232) : Tri Try.prog r 3 [.string (bs s)] [] fun w H => w = .bool true ∧ H = [] := by
  refine Tri.free2 fun R HR => ?_
  by_cases hb : s.length ≤ 4000
  · have h1 := lof_any r (bs s) (by rw [bs_size]; omega)
    have h2 := fun r' => lof_any r' (bs (s ++ [46, 114, 115])) (by rw [bs_size, List.length_append]; simp; omega)
    have h3 := fun r' => lof_any r' (bs (s ++ [46, 110, 111, 110, 101])) (by rw [bs_size, List.length_append]; simp; omega)
    rw [bs_data] at h1
    simp only [bs_data] at h2 h3
    have hmem := langOf_mem s
    have hdot := @langOf_dot s
    obtain ⟨L, hL⟩ : ∃ L, langOf s = L := ⟨_, rfl⟩
    rw [hL] at h1 hmem hdot
    refine fn_of_sw Try.func3 rfl _ rfl ?_; simp only [Try.ntmps3, List.length_cons, List.length_nil, Nat.reduceAdd, Nat.reduceSub, List.replicate_succ, List.replicate_zero, List.nil_append, List.cons_append]
    repeat' (first | ((with_reducible apply kx_call (f := 6) (cap := [])); exact goesOf Try.func6 (by kernel_rfl) rfl; rfl; rfl; exact (awake06_tri _); (exact atks); rintro v' H' ⟨rfl, rfl⟩; all_goals ((try simp only [List.nil_append]); (refine apk ?_))) | ((with_reducible apply kx_call (f := 7) (cap := [])); exact goesOf Try.func7 (by kernel_rfl) rfl; rfl; rfl; exact (all_tri _); (exact atks); rintro v' H' ⟨a, c, rfl, rfl⟩; all_goals ((try simp only [List.cons_append, List.nil_append]); (refine apk ?_))) | ((with_reducible apply kx_call (f := 8) (cap := [])); exact goesOf Try.func8 (by kernel_rfl) rfl; rfl; rfl; exact (h1); (exact atks); rintro v' H' ⟨rfl, rfl⟩; all_goals ((try simp only [List.nil_append]); (refine apk ?_))) | ((with_reducible apply sw_freezeT (c := .seq (.seq (.region 6 _ _) _) _) (A := RowC 9 1 (.slice a 17 c) 17 (allL.map Go.Proofs.encStr))); (with_reducible (exact atk)); intro r1 g1 hr1 hg1 hA1) | (refine aw0 ?_) | (refine ap2 ?_ ?_ <;> first | exact True.intro | intro h) | (refine aw1 ?_) | (refine abx ?_; intro bb) | (refine abz ?_; intro bz) | (refine ahv ?_; intro v' hv') | (refine aac ?_; intro ac cc) | (refine aw2 ?_) | (refine ap4 ?_ ?_ <;> first | exact True.intro | intro h) | (with_reducible refine tr_two ?_ ?_))
    have hA : Sl r1 1 (.slice a 17 c) 17 (allL.map Go.Proofs.encStr) := hA1.sl hg1
    have hE : Els r1 1 encT (.slice a 17 c) allL := ⟨fun _ => rfl, hA⟩
    clear hA1
    have hAl : allL.length = 17 := rfl
    have hct := contains_tri r1 (.slice a 17 c) L hA
    have hsc := scontains_tri r1 (bs s) 46
    rw [bs_data] at hsc
    have hrise := @allL_rise
    generalize allL = AL at hE hA hAl hrise hmem hct
    refine sw_loop (fun gm t H' => ∃ k : Nat, gm = 18 - k ∧ (k ≤ 16) ∧ (∃ G, Takes [] H' G) ∧ (t.length = 69 ∧ t[0]? = some (.string (bs s)) ∧ t[3]? = some (.slice a 17 c) ∧ t[4]? = some (.string (bs L)) ∧ t[5]? = some (.int .i64 ((k : Int) + 1)))) _ ⟨0, rfl, by omega, ⟨_, by (exact atks)⟩, rfl, (by first | rfl | exact congrArg some (congrArg (Value.int _) (by omega)) | (congr 2 <;> omega)), (by first | rfl | exact congrArg some (congrArg (Value.int _) (by omega)) | (congr 2 <;> omega)), (by first | rfl | exact congrArg some (congrArg (Value.int _) (by omega)) | (congr 2 <;> omega)), (by first | rfl | exact congrArg some (congrArg (Value.int _) (by omega)) | (congr 2 <;> omega))⟩ ?_
    rintro gm t H' ⟨k, rfl, hk, ⟨G, hp⟩, hlen, e0, e3, e4, e5⟩
    revert e0 e3 e4 e5; revert t; refine all_len (n := 69) ?_; iterate 69 intro uu'
    intro e0 e3 e4 e5; cases e0; cases e3; cases e4; cases e5
    refine sw_takeG hp ?_
    clear hp
    by_cases hlt : k < 16
    · have hr := hrise hlt
      rw [show AL.getD k default = AL.getD ((k : Int) + 1 - 1).toNat default by congr 1; omega, show AL.getD (k + 1) default = AL.getD ((k : Int) + 1).toNat default by congr 1] at hr
      repeat' (first | (first | ((with_reducible apply sw_draw (id := 9) 10 [(0, true), (1, true), (2, true), (3, true), (4, true), (5, true), (6, true), (7, true), (8, true), (9, true)] [] []); kernel_rfl; (exact atks); kernel_rfl; intro r' hl')) | (refine aw0 ?_) | (refine ap2 ?_ ?_ <;> first | exact True.intro | intro h) | (refine aw1 ?_) | (refine abx ?_; intro bb) | (refine abz ?_; intro bz) | (refine ahv ?_; intro v' hv') | (refine aac ?_; intro ac cc) | (refine aw2 ?_) | (refine ap4 ?_ ?_ <;> first | exact True.intro | intro h) | (with_reducible refine tr_two ?_ ?_))
      · exfalso
        rename_i h
        rw [hr] at h; cases h
      · exact ⟨_, (by omega), k + 1, rfl, by omega, ⟨_, by (exact atks)⟩, rfl, (by first | rfl | exact congrArg some (congrArg (Value.int _) (by omega)) | (congr 2 <;> omega)), (by first | rfl | exact congrArg some (congrArg (Value.int _) (by omega)) | (congr 2 <;> omega)), (by first | rfl | exact congrArg some (congrArg (Value.int _) (by omega)) | (congr 2 <;> omega)), (by first | rfl | exact congrArg some (congrArg (Value.int _) (by omega)) | (congr 2 <;> omega))⟩
    · by_cases hs0 : s = []
      · obtain rfl : L = [] := by rw [← hL, hs0]; exact langOf_noend rfl
        subst hs0
        repeat' (first | (refine aw0m ?_) | (refine ap2 ?_ ?_ <;> first | exact True.intro | intro h) | (exfalso; contradiction) | (refine aw1m ?_) | (refine abx ?_; intro bb) | (refine abz ?_; intro bz) | (refine ahv ?_; intro v' hv') | (refine aac ?_; intro ac cc) | (refine aw2 ?_) | (refine ap4 ?_ ?_ <;> first | exact True.intro | intro h) | (with_reducible refine tr_two ?_ ?_))
        ((with_reducible apply fp_ret); exact res_1 rfl rfl); exact HR.out _ _ _ [] (by (exact atks)) ⟨rfl, rfl⟩
      · have hp : 0 < s.length := List.length_pos_iff.2 hs0
        have hqe : ((s.length : Int) - 1).toNat = s.length - 1 := by omega
        by_cases hq : ((s.getD ((s.length : Int) - 1).toNat 0).toNat : Int) = 47
        · obtain rfl : L = [] := by
            rw [hqe] at hq
            rw [← hL]; exact langOf_noend (lastPart_end (.inr (UInt8.toNat_inj.1 (by simpa using (by omega : (s.getD (s.length - 1) 0).toNat = 47)))))
          repeat' (first | (refine aw0m ?_) | (refine ap2 ?_ ?_ <;> first | exact True.intro | intro h) | ((with_reducible apply kx_call (f := 9) (cap := [])); exact goesOf Try.func9 (by kernel_rfl) rfl; rfl; rfl; exact (hct); (exact atks); rintro v' H' ⟨rfl, rfl⟩; all_goals ((try simp only [List.cons_append, List.nil_append]); (refine apk ?_))) | ((with_reducible apply kx_call (f := 10) (cap := [])); exact goesOf Try.func10 (by kernel_rfl) rfl; rfl; rfl; exact (hsc); (exact atks); rintro v' H' ⟨rfl, rfl⟩; all_goals ((try simp only [List.cons_append, List.nil_append]); (refine apk ?_))) | ((with_reducible apply swo_pur); (with_reducible apply pu_cat); rfl; rfl; (simp only [List.length_cons, List.length_nil]; omega); (refine apk ?_)) | ((with_reducible apply kx_call (f := 8) (cap := [])); exact goesOf Try.func8 (by kernel_rfl) rfl; rfl; rfl; exact (h2 _); (exact atks); rintro v' H' ⟨rfl, rfl⟩; all_goals ((try simp only [List.cons_append, List.nil_append]); (refine apk ?_))) | ((with_reducible apply kx_call (f := 8) (cap := [])); exact goesOf Try.func8 (by kernel_rfl) rfl; rfl; rfl; exact (h3 _); (exact atks); rintro v' H' ⟨rfl, rfl⟩; all_goals ((try simp only [List.cons_append, List.nil_append]); (refine apk ?_))) | (exfalso; contradiction) | (refine aw1m ?_) | (refine abx ?_; intro bb) | (refine abz ?_; intro bz) | (refine ahv ?_; intro v' hv') | (refine aac ?_; intro ac cc) | (refine aw2 ?_) | (refine ap4 ?_ ?_ <;> first | exact True.intro | intro h) | (with_reducible refine tr_two ?_ ?_))
          ((with_reducible apply fp_ret); exact res_1 rfl rfl); exact HR.out _ _ _ [] (by (exact atks)) ⟨rfl, rfl⟩
        · obtain ⟨e2, e3⟩ := langOf_rs (lastPart_noend hs0 (fun e => hq (by rw [hqe, e]; rfl)))
          rw [e2] at h2
          rw [e3] at h3
          by_cases hL0 : L = []
          · subst hL0
            repeat' (first | (refine aw0m ?_) | (refine ap2 ?_ ?_ <;> first | exact True.intro | intro h) | ((with_reducible apply kx_call (f := 9) (cap := [])); exact goesOf Try.func9 (by kernel_rfl) rfl; rfl; rfl; exact (hct); (exact atks); rintro v' H' ⟨rfl, rfl⟩; all_goals ((try simp only [List.cons_append, List.nil_append]); (refine apk ?_))) | ((with_reducible apply kx_call (f := 10) (cap := [])); exact goesOf Try.func10 (by kernel_rfl) rfl; rfl; rfl; exact (hsc); (exact atks); rintro v' H' ⟨rfl, rfl⟩; all_goals ((try simp only [List.cons_append, List.nil_append]); (refine apk ?_))) | ((with_reducible apply swo_pur); (with_reducible apply pu_cat); rfl; rfl; (simp only [List.length_cons, List.length_nil]; omega); (refine apk ?_)) | ((with_reducible apply kx_call (f := 8) (cap := [])); exact goesOf Try.func8 (by kernel_rfl) rfl; rfl; rfl; exact (h2 _); (exact atks); rintro v' H' ⟨rfl, rfl⟩; all_goals ((try simp only [List.nil_append]); (refine apk ?_))) | ((with_reducible apply kx_call (f := 8) (cap := [])); exact goesOf Try.func8 (by kernel_rfl) rfl; rfl; rfl; exact (h3 _); (exact atks); rintro v' H' ⟨rfl, rfl⟩; all_goals ((try simp only [List.nil_append]); (refine apk ?_))) | (exfalso; contradiction) | (refine aw1m ?_) | (refine abx ?_; intro bb) | (refine abz ?_; intro bz) | (refine ahv ?_; intro v' hv') | (refine aac ?_; intro ac cc) | (refine aw2 ?_) | (refine ap4 ?_ ?_ <;> first | exact True.intro | intro h) | (with_reducible refine tr_two ?_ ?_))
            ((with_reducible apply fp_ret); exact res_1 rfl rfl); exact HR.out _ _ _ [] (by (exact atks)) ⟨rfl, rfl⟩
          · rw [decide_eq_true (hmem.resolve_left hL0)] at hct
            rw [decide_eq_true (idx_of (hdot hL0))] at hsc
            repeat' (first | (refine aw0m ?_) | (refine ap2 ?_ ?_ <;> first | exact True.intro | intro h) | ((with_reducible apply kx_call (f := 9) (cap := [])); exact goesOf Try.func9 (by kernel_rfl) rfl; rfl; rfl; exact (hct); (exact atks); rintro v' H' ⟨rfl, rfl⟩; all_goals ((try simp only [List.nil_append]); (refine apk ?_))) | ((with_reducible apply kx_call (f := 10) (cap := [])); exact goesOf Try.func10 (by kernel_rfl) rfl; rfl; rfl; exact (hsc); (exact atks); rintro v' H' ⟨rfl, rfl⟩; all_goals ((try simp only [List.nil_append]); (refine apk ?_))) | ((with_reducible apply swo_pur); (with_reducible apply pu_cat); rfl; rfl; (simp only [List.length_cons, List.length_nil]; omega); (refine apk ?_)) | ((with_reducible apply kx_call (f := 8) (cap := [])); exact goesOf Try.func8 (by kernel_rfl) rfl; rfl; rfl; exact (h2 _); (exact atks); rintro v' H' ⟨rfl, rfl⟩; all_goals ((try simp only [List.nil_append]); (refine apk ?_))) | ((with_reducible apply kx_call (f := 8) (cap := [])); exact goesOf Try.func8 (by kernel_rfl) rfl; rfl; rfl; exact (h3 _); (exact atks); rintro v' H' ⟨rfl, rfl⟩; all_goals ((try simp only [List.nil_append]); (refine apk ?_))) | (exfalso; contradiction) | (refine aw1m ?_) | (refine abx ?_; intro bb) | (refine abz ?_; intro bz) | (refine ahv ?_; intro v' hv') | (refine aac ?_; intro ac cc) | (refine aw2 ?_) | (refine ap4 ?_ ?_ <;> first | exact True.intro | intro h) | (with_reducible refine tr_two ?_ ?_))
            ((with_reducible apply fp_ret); exact res_1 rfl rfl); exact HR.out _ _ _ [] (by (exact atks)) ⟨rfl, rfl⟩
  · refine fn_of_sw Try.func3 rfl _ rfl ?_; simp only [Try.ntmps3, List.length_cons, List.length_nil, Nat.reduceAdd, Nat.reduceSub, List.replicate_succ, List.replicate_zero, List.nil_append, List.cons_append]
    repeat' (first | (refine aw0m ?_) | (refine ap2 ?_ ?_ <;> first | exact True.intro | intro h) | ((with_reducible apply kx_call (f := 6) (cap := [])); exact goesOf Try.func6 (by kernel_rfl) rfl; rfl; rfl; exact (awake06_tri _); (exact atks); rintro v' H' ⟨rfl, rfl⟩; all_goals ((try simp only [List.nil_append]); (refine apk ?_))) | (refine aw1m ?_) | (refine abx ?_; intro bb) | (refine abz ?_; intro bz) | (refine ahv ?_; intro v' hv') | (refine aac ?_; intro ac cc) | (refine aw2 ?_) | (refine ap4 ?_ ?_ <;> first | exact True.intro | intro h) | (with_reducible refine tr_two ?_ ?_))
    all_goals (((with_reducible apply fp_ret); exact res_1 rfl rfl); exact HR.out _ _ _ [] (by (exact atks)) ⟨rfl, rfl⟩)
end Go.Proofs.Ytkbajhiahpkgiaa
