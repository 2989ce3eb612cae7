
/- slices.swapRangeCmpFunc, rotateCmpFunc at structs: their contracts. -/
import Derived.Test.YtdccjfabdfgomaaGreatDoorRo
import Derived.Test.YtdccjfabdfgomaaGreatDoorUd
namespace Go.Proofs.YtdccjfabdfgomaaGreatDoor
open Go.RowKit Sx

set_option maxRecDepth 10000 in
set_option maxHeartbeats 4000000 in
theorem swapRQ_any (r : Hp) (B c : Nat) (fv : Value) (xs : List QuV) (n a b m : Nat) (ai bi mi : Int) (hn : xs.length = n) (ha : ai = a) (hb : bi = b) (hm : mi = m) (h1 : a + m ≤ b) (h2 : b + m ≤ xs.length) (hl : xs.length ≤ 10000000) (hone : ∀ x ∈ xs, (encQ x).all one? = true) : Tri Tryz.prog r 135 [.slice (some ⟨B, 0, none⟩) n c, .int .i64 ai, .int .i64 bi, .int .i64 mi, fv] [RowC 27 3 (.slice (some ⟨B, 0, none⟩) n c) n (xs.flatMap encQ)] fun _ H => H = [RowC 27 3 (.slice (some ⟨B, 0, none⟩) n c) n ((swr a b m xs).flatMap encQ)] := by
  subst ha hb hm
  refine Tri.free2 fun R HR => ?_
  refine fn_of_sw Tryz.func135 rfl _ rfl ?_; refine aen Tryz.ntmps135 ?_
  repeat' (first | refine aw0m ?_ | (refine ap2 ?_ ?_ <;> try intro h) | refine aw1m ?_ | (refine abx ?_; intro bb) | (refine abz ?_; intro bz) | (refine ahv ?_; intro v' hv') | (refine aac ?_; intro ac cc) | refine aw2 ?_ | (refine ap4 ?_ ?_ <;> try intro h) | apply True.intro)
  refine sw_loop (fun gm t H' => ∃ k : Nat, gm = m + 1 - k ∧ (k ≤ m) ∧ (∃ G, Takes [RowC 27 3 (.slice (some ⟨B, 0, none⟩) n c) n ((swr a b k xs).flatMap encQ)] H' G) ∧ Sls t 38 [(0, .slice (some ⟨B, 0, none⟩) n c), (1, .int .i64 a), (2, .int .i64 b), (3, .int .i64 m), (10, .int .i64 k)]) _ ⟨0, rfl, Nat.zero_le _, ⟨_, atks⟩, asls⟩ ?_
  rintro gm t H' ⟨k, rfl, hk, ⟨G, hp⟩, hs'⟩
  revert t; refine sls_all ?_; iterate 33 intro uu'
  refine sw_takeG hp ?_; clear hp
  by_cases hlt : k < m
  · have hmem : ∀ x, x ∈ swr a b k xs → x ∈ xs := fun x => swr_mem (by omega) (by omega)
    have hst : swr a b (k + 1) xs = swap (swr a b k xs) (a + k) (b + k) := rfl
    have hYl := swr_len a b k xs
    obtain ⟨Y, hY⟩ : ∃ Y, swr a b k xs = Y := ⟨_, rfl⟩
    rw [hY] at hst hmem hYl ⊢
    have e1 : ((a : Int) + k).toNat = a + k := by omega
    have e2 : ((b : Int) + k).toNat = b + k := by omega
    have hz1 := hone _ (hmem _ (getD_memV (l := Y) (k := a + k) (by omega)))
    have hz2 := hone _ (hmem _ (getD_memV (l := Y) (k := b + k) (by omega)))
    unfold swap at hst
    repeat' (first | (rw [e1]) | (rw [e2]) | ((with_reducible apply sw_drawT (id := 3) 24 (Pl.seg [(0, true), (1, true), (2, true), (3, true), (4, true), (5, true), (6, true), (7, true), (8, true), (9, true), (10, true), (11, true), (12, true), (14, true), (15, true), (16, true), (17, true), (18, true)] (Pl.two 13 19 (Pl.seg [(19, false), (20, true), (21, false), (22, true), (23, false)] Pl.leaf) (Pl.seg [(13, false), (20, true), (21, false), (22, true), (23, false)] Pl.leaf))) (List.replicate 24 true ++ List.replicate 0 false).toArray [] []); kernel_rfl; (exact atks); kernel_rfl; intro r' hl') | (first | ((with_reducible apply pi_pur); rfl; (exact qwt); (with_reducible apply pu_ixF); rfl; rfl; (omega); (refine apk ?_)) | ((with_reducible apply swo_pur); (with_reducible apply pu_ixF); rfl; rfl; (omega); (refine apk ?_))) | ((with_reducible apply kx_ldCE (ia := inferInstance) (enc := encQ)); exact fun _ => rfl; rfl; (exact atk); (omega); (refine apk ?_)) | ((with_reducible apply kx_stE (sz := 3) (enc := encQ)); exact fun _ => rfl; rfl; exact ty_size; rfl; rfl; (exact atk); assumption; (first | omega | (rw [List.length_set]; omega)); (refine apk ?_)) | (exfalso; first | contradiction | omega) | refine aw0 ?_ | (refine ap2 ?_ ?_ <;> try intro h) | refine aw1 ?_ | (refine abx ?_; intro bb) | (refine abz ?_; intro bz) | (refine ahv ?_; intro v' hv') | (refine aac ?_; intro ac cc) | refine aw2 ?_ | (refine ap4 ?_ ?_ <;> try intro h) | apply True.intro)
    all_goals exact ⟨_, by omega, k + 1, rfl, by omega, ⟨_, by rw [hst]; exact atks⟩, asls⟩
  · obtain rfl : k = m := by omega
    repeat' (first | (exfalso; first | contradiction | omega) | refine aw0 ?_ | (refine ap2 ?_ ?_ <;> try intro h) | refine aw1 ?_ | (refine abx ?_; intro bb) | (refine abz ?_; intro bz) | (refine ahv ?_; intro v' hv') | (refine aac ?_; intro ac cc) | refine aw2 ?_ | (refine ap4 ?_ ?_ <;> try intro h) | apply True.intro)
    ((with_reducible apply fp_end); exact res_0 rfl)
    exact HR.out _ _ _ [_] (by (exact atks)) rfl
set_option maxRecDepth 10000 in
set_option maxHeartbeats 4000000 in
theorem rotateQ_any (r : Hp) (B c : Nat) (fv : Value) (xs : List QuV) (n a m b : Nat) (ai mi bi : Int) (hn : xs.length = n) (ha : ai = a) (hm : mi = m) (hb : bi = b) (h1 : a < m) (h2 : m < b) (h3 : b ≤ xs.length) (hl : xs.length ≤ 10000000) (hone : ∀ x ∈ xs, (encQ x).all one? = true) : Tri Tryz.prog r 128 [.slice (some ⟨B, 0, none⟩) n c, .int .i64 ai, .int .i64 mi, .int .i64 bi, fv] [RowC 27 3 (.slice (some ⟨B, 0, none⟩) n c) n (xs.flatMap encQ)] fun _ H => H = [RowC 27 3 (.slice (some ⟨B, 0, none⟩) n c) n ((rot a m b xs).flatMap encQ)] := by
  subst ha hb hm
  refine Tri.free2 fun R HR => ?_
  refine fn_of_sw Tryz.func128 rfl _ rfl ?_; refine aen Tryz.ntmps128 ?_
  repeat' (first | refine aw0m ?_ | (refine ap2 ?_ ?_ <;> try intro h) | refine aw1m ?_ | (refine abx ?_; intro bb) | (refine abz ?_; intro bz) | (refine ahv ?_; intro v' hv') | (refine aac ?_; intro ac cc) | refine aw2 ?_ | (refine ap4 ?_ ?_ <;> try intro h) | apply True.intro)
  refine sw_loop (fun gm t H' => ∃ (i j : Nat) (ys : List QuV), gm = i + j ∧ (0 < i ∧ i ≤ m) ∧ (0 < j ∧ m + j ≤ xs.length) ∧ (rot (m - i) m (m + j) ys = rot a m b xs) ∧ (ys.length = n) ∧ (∀ x ∈ ys, (encQ x).all one? = true) ∧ (∃ G, Takes [RowC 27 3 (.slice (some ⟨B, 0, none⟩) n c) n (ys.flatMap encQ)] H' G) ∧ Sls t 58 [(0, .slice (some ⟨B, 0, none⟩) n c), (2, .int .i64 m), (4, fv), (10, .int .i64 i), (11, .int .i64 j)]) _ ⟨m - a, b - m, xs, rfl, ⟨by omega, by omega⟩, ⟨by omega, by omega⟩, by rw [show m - (m - a) = a by omega, show m + (b - m) = b by omega], hn, hone, ⟨_, atks⟩, asls⟩ ?_
  rintro gm t H' ⟨i, j, ys, rfl, hi, hj, hr, hyl, ho, ⟨G, hp⟩, hs'⟩
  revert t; refine sls_all ?_; iterate 53 intro uu'
  refine sw_takeG hp ?_; clear hp
  by_cases hij : i = j
  · subst hij
    have hlast := rot_last (i := i) (m := m) (xs := ys) (by omega) (by omega)
    have hc := swapRQ_any r B c fv ys n (m - i) m i ((m : Int) - i) m i hyl (by omega) rfl rfl (by omega) (by omega) (by omega) ho
    repeat' (first | (refine acl Tryz.func135 ?_; refine acr (hc) ?_; rintro v' H' rfl; all_goals refine apl ?_) | (exfalso; first | contradiction | omega) | refine aw0 ?_ | (refine ap2 ?_ ?_ <;> try intro h) | refine aw1 ?_ | (refine abx ?_; intro bb) | (refine abz ?_; intro bz) | (refine ahv ?_; intro v' hv') | (refine aac ?_; intro ac cc) | refine aw2 ?_ | (refine ap4 ?_ ?_ <;> try intro h) | apply True.intro)
    ((with_reducible apply fp_end); exact res_0 rfl)
    exact HR.out _ _ _ [_] (by (exact atks)) (by rw [hlast, hr])
  · by_cases hgt : j < i
    · have hc := swapRQ_any r B c fv ys n (m - i) m j ((m : Int) - i) m j hyl (by omega) rfl rfl (by omega) (by omega) (by omega) ho
      repeat' (first | (refine acl Tryz.func135 ?_; refine acr (hc) ?_; rintro v' H' rfl; all_goals refine apl ?_) | (exfalso; first | contradiction | omega) | refine aw0 ?_ | (refine ap2 ?_ ?_ <;> try intro h) | refine aw1 ?_ | (refine abx ?_; intro bb) | (refine abz ?_; intro bz) | (refine ahv ?_; intro v' hv') | (refine aac ?_; intro ac cc) | refine aw2 ?_ | (refine ap4 ?_ ?_ <;> try intro h) | apply True.intro)
      exact ⟨_, by omega, i - j, j, swr (m - i) m j ys, rfl, ⟨by omega, by omega⟩, hj, by rw [rot_step1 hgt (by omega) (by omega)]; exact hr, by rw [swr_len]; exact hyl, fun x hx => ho x (swr_mem (by omega) (by omega) hx), ⟨_, atks⟩, asls⟩
    · have hc := swapRQ_any r B c fv ys n (m - i) (m + j - i) i ((m : Int) - i) ((m : Int) + j - i) i hyl (by omega) (by omega) rfl (by omega) (by omega) (by omega) ho
      repeat' (first | (refine acl Tryz.func135 ?_; refine acr (hc) ?_; rintro v' H' rfl; all_goals refine apl ?_) | (exfalso; first | contradiction | omega) | refine aw0 ?_ | (refine ap2 ?_ ?_ <;> try intro h) | refine aw1 ?_ | (refine abx ?_; intro bb) | (refine abz ?_; intro bz) | (refine ahv ?_; intro v' hv') | (refine aac ?_; intro ac cc) | refine aw2 ?_ | (refine ap4 ?_ ?_ <;> try intro h) | apply True.intro)
      exact ⟨_, by omega, i, j - i, swr (m - i) (m + j - i) i ys, rfl, hi, ⟨by omega, by omega⟩, by rw [rot_step2 (by omega) (by omega) (by omega)]; exact hr, by rw [swr_len]; exact hyl, fun x hx => ho x (swr_mem (by omega) (by omega) hx), ⟨_, atks⟩, asls⟩
end Go.Proofs.YtdccjfabdfgomaaGreatDoor
