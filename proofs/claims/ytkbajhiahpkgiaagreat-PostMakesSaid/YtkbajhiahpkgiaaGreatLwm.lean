
/- mudlarklaw19.PostMakes: its contract. -/
import Derived.Test.YtkbajhiahpkgiaaGreatMr
import Derived.Test.YtkbajhiahpkgiaaGreatAx
namespace Go.Proofs.YtkbajhiahpkgiaaGreat
open Go.RowKit Sx

theorem tot_rows (bv : List BytV) : tot (bv.map (·.data)) bv.length = sumR bv := by
  have h := tot_sum (bv.map (·.data)) bv.length (by rw [List.length_map]; exact Nat.le_refl _)
  rw [h, List.take_of_length_le (by rw [List.length_map]; exact Nat.le_refl _), List.map_map]
  rfl
theorem sumR_mem {bv : List BytV} {x : BytV} (h : x ∈ bv) : x.data.length ≤ sumR bv := by
  induction bv with
  | nil => cases h
  | cons y bv ih =>
    unfold sumR at ih ⊢
    rw [List.map_cons, List.sum_cons]
    rcases List.mem_cons.1 h with rfl | h
    · omega
    · have := ih h; omega
theorem same_post (r : Hp) {a b : Option Addr} {c d : Nat} {Z : List PZ} {ps : List PostP} (hZ : Z.map (·.1) = ps) {g k : Hp} (hA : PZD (.slice a ps.length c) Z g) (hg : sub g r) (hB : PostC 53 56 (.slice b ps.length d) ps k) (hk : sub k r) : Tri Tryz.prog r 11 [.slice a ps.length c, .slice b ps.length d] [] fun u H => u = .bool true ∧ H = [] := by
  obtain ⟨Y, hY, hB⟩ := hB
  have h1 := pzc_posts hA hg (by rw [← hZ, List.length_map])
  have h2 := pzc_posts (Z := Y) hB hk (by rw [← hY, List.length_map])
  refine (samePostings_any r _ _ _ _ h1.2 h2.2).mono fun u H ⟨e1, e2⟩ => ⟨e1.trans (congrArg Value.bool (decide_eq_true ?_)), e2⟩
  rw [h1.1, h2.1, hZ, hY]
theorem makeP_bds {ds : List (List UInt8)} {n : Nat} (h : tot ds ds.length ≤ n) : (makeP ds).length ≤ n ∧ ∀ x ∈ makeP ds, x.2.length ≤ n := by
  have h1 := occs_len ds ds.length
  rw [makeP_sort]
  refine ⟨Nat.le_trans (sortP_len _) (by omega), fun x hx => ?_⟩
  rw [sortP_val hx]
  exact Nat.le_trans (grams_getlen _ _) (by omega)
theorem lent_rowz {r : Hp} {v : Value} {Z : List RowV} (h : Sl r 1 v Z.length (Z.flatMap encS)) (hZ : ∀ z ∈ Z, Wide r z.val z.l) : Els r 1 encS v Z ∧ Rowz r v (Z.map bytV) := by
  refine ⟨⟨fun _ => rfl, h⟩, ⟨fun _ => rfl, ?_⟩, fun x hx => ?_⟩
  · rw [List.length_map, show (Z.map bytV).flatMap encBy = Z.flatMap encS by rw [List.flatMap_map]; rfl]
    exact h
  · obtain ⟨z, hz, rfl⟩ := List.mem_map.1 hx
    exact (hZ z hz).sl
set_option maxRecDepth 10000 in
set_option maxHeartbeats 8000000 in
theorem postMakes_any (r : Hp) (v : Value) (bv : List BytV) (hv : Rowz r v bv) (hbn : bv.length ≤ 140737488351232) (hl : ∀ x ∈ bv, x.data.length ≤ 140737488351232) : Tri Tryz.prog r 3 [v] [] fun w H => w = .bool true ∧ H = [] := by
  refine Tri.free2 fun R HR => ?_
  have hgr := great_any r v bv hv (by omega) (fun x hx => by have := hl x hx; omega)
  by_cases hg : 1500 < bv.length + sumR bv
  · rw [decide_eq_true hg] at hgr
    refine fn_of_sw Tryz.func3 rfl _ rfl ?_; refine aen Tryz.ntmps3 ?_
    repeat' (first | (refine acl Tryz.func8 ?_; refine acr (awake19_any _) ?_; rintro v' H' ⟨rfl, rfl⟩; all_goals refine apl ?_) | (refine acl Tryz.func7 ?_; refine acr (hgr) ?_; rintro v' H' ⟨rfl, rfl⟩; all_goals refine apl ?_) | (exfalso; first | contradiction | omega) | refine aw0 ?_ | (refine ap2 ?_ ?_ <;> try intro h) | refine aw1 ?_ | (refine abx ?_; intro bb) | (refine abz ?_; intro bz) | (refine ahv ?_; intro v' hv') | (refine aac ?_; intro ac cc) | refine aw2 ?_ | (refine ap4 ?_ ?_ <;> try intro h) | apply True.intro)
    all_goals (((with_reducible apply fp_ret); exact res_1 rfl rfl); exact HR.out _ _ _ [] Takes.all ⟨rfl, rfl⟩)
  · rw [decide_eq_false hg] at hgr
    have htot := tot_rows bv
    have hrows := lentRows_any r v bv hv (by omega) (fun x hx => by have := sumR_mem hx; omega)
    obtain ⟨hm1, hm2⟩ := makeP_bds (ds := bv.map (·.data)) (n := 1500) (by rw [List.length_map, htot]; omega)
    refine fn_of_sw Tryz.func3 rfl _ rfl ?_; refine aen Tryz.ntmps3 ?_
    repeat' (first | (refine acl Tryz.func7 ?_; refine acr (hgr) ?_; rintro v' H' ⟨rfl, rfl⟩; all_goals refine apl ?_) | (refine acl Tryz.func9 ?_; refine acr (hrows) ?_; rintro v' H' ⟨a1, c1, Z, hZ, rfl, rfl⟩; all_goals refine apl ?_) | ((with_reducible apply sw_freezeT (A := RowC 33 1 (.slice a1 bv.length c1) bv.length (Z.flatMap encS))); (with_reducible (exact atk)); intro r1 g1 hr1 hg1 hA1) | ((with_reducible apply sw_freezeT (A := all (Z.map wideC))); (with_reducible (exact atk)); intro r2 g2 hr2 hg2 hA2) | (exfalso; first | contradiction | omega) | refine aw0 ?_ | (refine ap2 ?_ ?_ <;> try intro h) | refine aw1 ?_ | (refine abx ?_; intro bb) | (refine abz ?_; intro bz) | (refine ahv ?_; intro v' hv') | (refine aac ?_; intro ac cc) | refine aw2 ?_ | (refine ap4 ?_ ?_ <;> try intro h) | apply True.intro)
    have hWz := wide_all hA2 hg2
    have hZl : Z.length = bv.length := by have h := congrArg List.length hZ; rwa [List.length_map, List.length_map] at h
    have hS2 := (hA1.sl hg1).mono hr2
    rw [← hZl] at hS2
    obtain ⟨hE, hRz⟩ := lent_rowz hS2 hWz
    rw [hZl] at hE hRz
    have hv2 : Rowz r2 v bv := ⟨(hv.1.mono hr1).mono hr2, fun x hx => ((hv.2 x hx).mono hr1).mono hr2⟩
    have hZd : (Z.map bytV).map (·.data) = bv.map (·.data) := by rw [List.map_map, ← hZ]; rfl
    have hmk := make_any r2 (.slice a1 bv.length c1) (Z.map bytV) hRz (by rw [List.length_map]; omega) (by rw [hZd, List.length_map, hZl, htot]; omega)
    rw [hZd] at hmk
    have hrm := rmake_any r2 v bv hv2 (by omega) (by rw [htot]; omega)
    have hkr := fun r' (hr : sub r2 r') => keptRows_any r' (.slice a1 bv.length c1) v Z bv (hE.mono hr) ⟨hv2.1.mono hr, fun x hx => (hv2.2 x hx).mono hr⟩ hZ (fun z hz => (hWz z hz).mono hr)
    generalize makeP (bv.map (·.data)) = ps at hm1 hm2 hmk hrm
    have hmk2 := hmk
    repeat' (first | ((fail_if_success have hq := c2); (refine acl Tryz.func10 ?_; refine acr (hmk) ?_; rintro v' H' ⟨a2, c2, rfl, rfl⟩; all_goals refine apl ?_)) | (refine acl Tryz.func10 ?_; refine acr (hmk2) ?_; rintro v' H' ⟨a4, c4, rfl, rfl⟩; all_goals refine apl ?_) | ((with_reducible apply sw_open (A := PostC 53 56 (.slice a2 ps.length c2) ps) (ι := List PZ) (B := fun Z => [PZC 53 56 (.slice a2 ps.length c2) Z]) (φ := fun Z => Z.map (·.1) = ps)); (with_reducible (exact atk)); (exact fun h ⟨Z, h1, h2⟩ => ⟨Z, h1, all_one.2 h2⟩); (rintro Z2 hZ2); (simp only [List.nil_append, List.cons_append])) | ((with_reducible apply sw_open (A := PostC 53 56 (.slice a4 ps.length c4) ps) (ι := List PZ) (B := fun Z => [PZC 53 56 (.slice a4 ps.length c4) Z]) (φ := fun Z => Z.map (·.1) = ps)); (with_reducible (exact atk)); (exact fun h ⟨Z, h1, h2⟩ => ⟨Z, h1, all_one.2 h2⟩); (rintro Z4 hZ4); (simp only [List.nil_append, List.cons_append])) | (exfalso; first | contradiction | omega) | refine aw0 ?_ | (refine ap2 ?_ ?_ <;> try intro h) | refine aw1 ?_ | (refine abx ?_; intro bb) | (refine abz ?_; intro bz) | (refine ahv ?_; intro v' hv') | (refine aac ?_; intro ac cc) | refine aw2 ?_ | (refine ap4 ?_ ?_ <;> try intro h) | apply True.intro)
    have hl2 : Z2.length = ps.length := by rw [← hZ2, List.length_map]
    have hl4 : Z4.length = ps.length := by rw [← hZ4, List.length_map]
    have hap := fun r v h => apartPostings_any r v a2 a4 c2 c4 Z2 Z4 h (by omega) (by omega) (fun z hz => by
      have h1 : z.1 ∈ ps := by
        rcases List.mem_append.1 hz with h | h
        · rw [← hZ2]; exact List.mem_map_of_mem h
        · rw [← hZ4]; exact List.mem_map_of_mem h
      have := hm2 _ h1
      omega)
    rw [hl2, hl4] at hap
    repeat' (first | (refine acl Tryz.func12 ?_; refine acr (hrm) ?_; rintro v' H' ⟨a3, c3, rfl, rfl⟩; all_goals refine apl ?_) | ((with_reducible apply kx_lendC (A := PZC 53 56 (.slice a2 ps.length c2) Z2)); (exact atk); intro rx gx hrx hgx hAx; (with_reducible apply kx_lendC (A := PostC 53 56 (.slice a3 ps.length c3) ps)); (exact atk); intro ry gy hry hgy hAy; (refine acl Tryz.func11 ?_; refine acr (same_post ry hZ2 hAx (fun b o h => hry b o (hgx b o h)) hAy hgy) ?_; rintro v' H' ⟨rfl, rfl⟩; all_goals refine apl ?_)) | (refine acl Tryz.func13 ?_; refine acr (hkr r2 (fun _ _ h => h)) ?_; rintro v' H' ⟨rfl, rfl⟩; all_goals refine apl ?_) | ((with_reducible apply kx_lend [(bz, .cells [.slice a2 ps.length c2, .slice a4 ps.length c4].toArray 26 (0, 0))]); (exact atks); intro r' hl'; refine acl Tryz.func14 ?_; refine acr (hap _ _ (Sl.lit (n := 2) (Lent.h1 hl') rfl (by simp [maxLen]))) ?_; rintro v' H' ⟨rfl, rfl⟩; all_goals refine apm ?_) | (refine acl Tryz.func8 ?_; refine acr (awake19_any _) ?_; rintro v' H' ⟨rfl, rfl⟩; all_goals refine apl ?_) | (exfalso; first | contradiction | omega) | refine aw0 ?_ | (refine ap2 ?_ ?_ <;> try intro h) | refine aw1 ?_ | (refine abx ?_; intro bb) | (refine abz ?_; intro bz) | (refine ahv ?_; intro v' hv') | (refine aac ?_; intro ac cc) | refine aw2 ?_ | (refine ap4 ?_ ?_ <;> try intro h) | apply True.intro)
    ((with_reducible apply fp_ret); exact res_1 rfl rfl)
    exact HR.out _ _ _ [] Takes.all ⟨rfl, rfl⟩
end Go.Proofs.YtkbajhiahpkgiaaGreat
