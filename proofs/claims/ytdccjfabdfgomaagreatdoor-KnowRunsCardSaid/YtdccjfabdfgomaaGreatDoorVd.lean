
/- slices.insertionSortCmpFunc at structs: its contract. -/
import Derived.Test.YtdccjfabdfgomaaGreatDoorVc
namespace Go.Proofs.YtdccjfabdfgomaaGreatDoor
open Go.RowKit Sx

set_option maxRecDepth 10000 in
set_option maxHeartbeats 4000000 in
theorem insertQ_any (r : Hp) (B c : Nat) (gf : FuncId) (key : QuV → Tx) (xs : List QuV) (n a b : Nat) (ai bi : Int) (hn : xs.length = n) (ha : ai = a) (hb : bi = b) (h1 : a ≤ b) (h2 : b ≤ n) (hl : n ≤ 10000000) (hg : GoesTo Tryz.prog gf) (hone : ∀ x ∈ xs, (encQ x).all one? = true) (hcmp : CmpBy Tryz.prog r gf encQ key xs) : Tri Tryz.prog r 112 [.slice (some ⟨B, 0, none⟩) n c, .int .i64 ai, .int .i64 bi, .func (.func gf) #[] #[]] [RowC 27 3 (.slice (some ⟨B, 0, none⟩) n c) n (xs.flatMap encQ)] fun _ H => ∃ zs, (Part key a b xs zs ∧ UpIn key a b zs) ∧ H = [RowC 27 3 (.slice (some ⟨B, 0, none⟩) n c) n (zs.flatMap encQ)] := by
  subst ha hb
  refine Tri.free2 fun R HR => ?_
  refine fn_of_sw Tryz.func112 rfl _ rfl ?_; refine aen Tryz.ntmps112 ?_
  repeat' (first | refine aw0m ?_ | (refine ap2 ?_ ?_ <;> try intro h) | refine aw1m ?_ | (refine abx ?_; intro bb) | (refine abz ?_; intro bz) | (refine ahv ?_; intro v' hv') | (refine aac ?_; intro ac cc) | refine aw2 ?_ | (refine ap4 ?_ ?_ <;> try intro h) | apply True.intro)
  refine sw_loop (fun gm t H' => ∃ (i : Nat) (ys : List QuV), gm = b + 1 - i ∧ (a + 1 ≤ i ∧ (i ≤ b ∨ i = a + 1)) ∧ (Part key a b xs ys) ∧ (UpIn key a i ys) ∧ (∃ G, Takes [RowC 27 3 (.slice (some ⟨B, 0, none⟩) n c) n (ys.flatMap encQ)] H' G) ∧ Sls t 53 [(0, .slice (some ⟨B, 0, none⟩) n c), (1, .int .i64 a), (2, .int .i64 b), (3, .func (.func gf) #[] #[]), (8, .int .i64 i)]) _ ⟨a + 1, xs, rfl, ⟨by omega, .inr rfl⟩, Part.refl h1 (by omega), UpIn.one (by omega), ⟨_, atks⟩, asls⟩ ?_
  rintro gm t H' ⟨i, ys, rfl, hi, hp, hu, ⟨G, hp⟩, hs'⟩
  revert t; refine sls_all ?_; iterate 48 intro uu'
  refine sw_takeG hp ?_; clear hp
  have hyl : ys.length = n := by rw [hp.len]; exact hn
  by_cases hlt : i < b
  · repeat' (first | (exfalso; first | contradiction | omega) | refine aw0 ?_ | (refine ap2 ?_ ?_ <;> try intro h) | refine aw1 ?_ | (refine abx ?_; intro bb) | (refine abz ?_; intro bz) | (refine ahv ?_; intro v' hv') | (refine aac ?_; intro ac cc) | refine aw2 ?_ | (refine ap4 ?_ ?_ <;> try intro h) | apply True.intro)
    refine sw_loop (fun gm t H' => ∃ (j : Nat) (zs : List QuV), gm = j + 1 ∧ (a ≤ j ∧ j ≤ i) ∧ (Part key a b xs zs) ∧ (UpBut key a (i + 1) j zs) ∧ (∃ G, Takes [RowC 27 3 (.slice (some ⟨B, 0, none⟩) n c) n (zs.flatMap encQ)] H' G) ∧ Sls t 53 [(0, .slice (some ⟨B, 0, none⟩) n c), (1, .int .i64 a), (2, .int .i64 b), (3, .func (.func gf) #[] #[]), (8, .int .i64 i), (9, .int .i64 j)]) _ ⟨i, ys, rfl, ⟨by omega, by omega⟩, hp, UpBut.start hu (by omega), ⟨_, atks⟩, asls⟩ ?_
    rintro gm t H' ⟨j, zs, rfl, hj, hpz, huz, ⟨G, hp⟩, hs'⟩
    revert t; refine sls_all ?_; iterate 47 intro uu'
    refine sw_takeG hp ?_; clear hp
    have hzl : zs.length = n := by rw [hpz.len]; exact hn
    by_cases haj : a < j
    · have hm1 : zs.getD j default ∈ xs := hpz.mem.1 (getD_memV (by omega))
      have hm2 : zs.getD (j - 1) default ∈ xs := hpz.mem.1 (getD_memV (by omega))
      have hz1 := hone _ hm1
      have hz2 := hone _ hm2
      have hc0 := hcmp _ hm1 _ hm2
      have e1 : ((j : Int) - 1).toNat = j - 1 := by omega
      have e2 : ((j : Int)).toNat = j := by omega
      have e3 : ((j : Int) - 1) = ((j - 1 : Nat) : Int) := by omega
      by_cases hlt2 : key (zs.getD j default) < key (zs.getD (j - 1) default)
      · have hc : Tri Tryz.prog r gf [.agg (encQ (zs.getD j default)).toArray, .agg (encQ (zs.getD (j - 1) default)).toArray] [] fun w H => (∃ c : Int, w = .int .i64 c ∧ c < 0) ∧ H = [] := hc0.mono (by
          rintro w H ⟨⟨c, rfl, hc⟩, rfl⟩
          exact ⟨⟨c, rfl, hc.2 hlt2⟩, rfl⟩)
        clear hc0
        have hsw : (zs.set j (zs.getD (j - 1) default)).set (j - 1) (zs.getD j default) = swap zs (j - 1) (j - 1 + 1) := by
          rw [swap_comm zs (by omega) (by omega), show j - 1 + 1 = j by omega]; rfl
        have hpn : Part key a b zs (swap zs (j - 1) (j - 1 + 1)) := part_swap (by omega) (by omega) (by omega) (by rw [show j - 1 + 1 = j by omega]; exact hlt2)
        have hun : UpBut key a (i + 1) (j - 1) (swap zs (j - 1) (j - 1 + 1)) := UpBut.step (by rw [show j - 1 + 1 = j by omega]; exact huz) (by omega) (by omega) (by omega) (by rw [show j - 1 + 1 = j by omega]; exact hlt2)
        rw [← hsw] at hpn hun
        repeat' (first | (rw [e1]) | (rw [e2]) | ((with_reducible apply sw_lendQ (c := .region 4 _ _) (A := RowC 27 3 (.slice (some ⟨B, 0, none⟩) n c) n (zs.flatMap encQ))); (with_reducible (exact atk)); intro r1 g1 hr1 hg1 hA1; have hE1 : Els r1 3 encQ (.slice (some ⟨B, 0, none⟩) n c) zs := ⟨fun _ => rfl, by rw [hzl]; exact hA1.sl hg1⟩; have hc1 := hc.up hr1) | ((with_reducible apply sw_draw (id := 4) 17 [(0, true), (1, true), (2, true), (3, true), (4, true), (5, true), (6, true), (7, true), (8, true), (9, true), (10, true), (11, true), (12, true), (13, true), (14, false), (15, true), (16, true)] [] []); kernel_rfl; (exact atks); kernel_rfl; intro r' hl') | ((with_reducible apply sw_drawT (id := 6) 18 (Pl.seg [(0, true), (1, true), (2, true), (3, true), (4, true), (5, true), (6, true), (7, true), (8, true), (10, true), (11, true), (12, true)] (Pl.two 9 13 (Pl.seg [(13, false), (14, true), (15, false), (16, true), (17, false)] Pl.leaf) (Pl.seg [(9, false), (14, true), (15, false), (16, true), (17, false)] Pl.leaf))) (List.replicate 18 true ++ List.replicate 0 false).toArray [] []); kernel_rfl; (exact atks); kernel_rfl; intro r' hl') | (first | ((with_reducible apply pi_pur); rfl; (exact qwt); (with_reducible apply pu_ixF); rfl; rfl; (omega); (refine apk ?_)) | ((with_reducible apply swo_pur); (with_reducible apply pu_ixF); rfl; rfl; (omega); (refine apk ?_))) | ((with_reducible apply kx_ldCE (ia := inferInstance) (enc := encQ)); exact fun _ => rfl; rfl; (exact atk); (omega); (refine apk ?_)) | ((with_reducible apply kx_stE (sz := 3) (enc := encQ)); exact fun _ => rfl; rfl; exact ty_size; rfl; rfl; (exact atk); assumption; (first | omega | (rw [List.length_set]; omega)); (refine apk ?_)) | ((with_reducible apply kx_call (f := gf) (cap := [])); exact hg; rfl; rfl; exact (hc1.up hl'.1); (exact atks); rintro v' H' ⟨⟨c9, rfl, hc9⟩, rfl⟩; all_goals ((try simp only [List.nil_append]); (refine apk ?_))) | (exfalso; first | contradiction | omega) | refine aw0 ?_ | (refine ap2 ?_ ?_ <;> try intro h) | refine aw1 ?_ | (refine abx ?_; intro bb) | (refine abz ?_; intro bz) | (refine ahv ?_; intro v' hv') | (refine aac ?_; intro ac cc) | refine aw2 ?_ | (refine ap4 ?_ ?_ <;> try intro h) | apply True.intro)
        all_goals exact ⟨_, by omega, j - 1, _, rfl, ⟨by omega, by omega⟩, hpz.trans hpn, hun, ⟨_, atks⟩, asls⟩
      · have hc : Tri Tryz.prog r gf [.agg (encQ (zs.getD j default)).toArray, .agg (encQ (zs.getD (j - 1) default)).toArray] [] fun w H => (∃ c : Int, w = .int .i64 c ∧ 0 ≤ c) ∧ H = [] := hc0.mono (by
          rintro w H ⟨⟨c, rfl, hc⟩, rfl⟩
          exact ⟨⟨c, rfl, by
            have : ¬ c < 0 := fun h => hlt2 (hc.1 h)
            omega⟩, rfl⟩)
        clear hc0
        repeat' (first | (rw [e1]) | (rw [e2]) | ((with_reducible apply sw_lendQ (c := .region 4 _ _) (A := RowC 27 3 (.slice (some ⟨B, 0, none⟩) n c) n (zs.flatMap encQ))); (with_reducible (exact atk)); intro r1 g1 hr1 hg1 hA1; have hE1 : Els r1 3 encQ (.slice (some ⟨B, 0, none⟩) n c) zs := ⟨fun _ => rfl, by rw [hzl]; exact hA1.sl hg1⟩; have hc1 := hc.up hr1) | ((with_reducible apply sw_draw (id := 4) 17 [(0, true), (1, true), (2, true), (3, true), (4, true), (5, true), (6, true), (7, true), (8, true), (9, true), (10, true), (11, true), (12, true), (13, true), (14, false), (15, true), (16, true)] [] []); kernel_rfl; (exact atks); kernel_rfl; intro r' hl') | ((with_reducible apply kx_call (f := gf) (cap := [])); exact hg; rfl; rfl; exact (hc1.up hl'.1); (exact atks); rintro v' H' ⟨⟨c9, rfl, hc9⟩, rfl⟩; all_goals ((try simp only [List.nil_append]); (refine apk ?_))) | (exfalso; first | contradiction | omega) | refine aw0 ?_ | (refine ap2 ?_ ?_ <;> try intro h) | refine aw1 ?_ | (refine abx ?_; intro bb) | (refine abz ?_; intro bz) | (refine ahv ?_; intro v' hv') | (refine aac ?_; intro ac cc) | refine aw2 ?_ | (refine ap4 ?_ ?_ <;> try intro h) | apply True.intro)
        exact ⟨_, by omega, i + 1, zs, rfl, ⟨by omega, .inl (by omega)⟩, hpz, huz.stop (.inr ⟨haj, hlt2⟩), ⟨_, atks⟩, asls⟩
    · obtain rfl : a = j := by omega
      repeat' (first | ((with_reducible apply sw_lendQ (c := .region 4 _ _) (A := RowC 27 3 (.slice (some ⟨B, 0, none⟩) n c) n (zs.flatMap encQ))); (with_reducible (exact atk)); intro r1 g1 hr1 hg1 hA1) | ((with_reducible apply sw_draw (id := 4) 17 [(0, true), (1, true), (2, true), (3, true), (4, true), (5, true), (6, true), (7, true), (8, true), (9, true), (10, true), (11, true), (12, true), (13, true), (14, false), (15, true), (16, true)] [] []); kernel_rfl; (exact atks); kernel_rfl; intro r' hl') | (exfalso; first | contradiction | omega) | refine aw0 ?_ | (refine ap2 ?_ ?_ <;> try intro h) | refine aw1 ?_ | (refine abx ?_; intro bb) | (refine abz ?_; intro bz) | (refine ahv ?_; intro v' hv') | (refine aac ?_; intro ac cc) | refine aw2 ?_ | (refine ap4 ?_ ?_ <;> try intro h) | apply True.intro)
      exact ⟨_, by omega, i + 1, zs, rfl, ⟨by omega, .inl (by omega)⟩, hpz, huz.stop (.inl rfl), ⟨_, atks⟩, asls⟩
  · repeat' (first | (exfalso; first | contradiction | omega) | refine aw0 ?_ | (refine ap2 ?_ ?_ <;> try intro h) | refine aw1 ?_ | (refine abx ?_; intro bb) | (refine abz ?_; intro bz) | (refine ahv ?_; intro v' hv') | (refine aac ?_; intro ac cc) | refine aw2 ?_ | (refine ap4 ?_ ?_ <;> try intro h) | apply True.intro)
    ((with_reducible apply fp_end); exact res_0 rfl)
    exact HR.out _ _ _ [_] (by (exact atks)) ⟨ys, ⟨hp, fun p q g1 g2 g3 g4 => hu p q g1 g2 (by omega) g4⟩, rfl⟩
end Go.Proofs.YtdccjfabdfgomaaGreatDoor
