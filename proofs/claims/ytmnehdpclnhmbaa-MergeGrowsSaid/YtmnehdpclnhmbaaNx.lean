
/- mudlarklaw27.MergeGrows: for every input it returns true. -/
import Derived.Test.YtmnehdpclnhmbaaNw
namespace Go.Proofs.Ytmnehdpclnhmbaa
open Go.RowKit Go.Maps Sx

theorem filC_open {v : Value} {ks : List KeyM} (h : Hp) (e : FilC v ks h) : ∃ Y : List FileV, Y.map FileV.key = ks ∧ all [FilZ v Y] h := by
  obtain ⟨Y, e1, e2⟩ := e
  exact ⟨Y, e1, all_one.2 e2⟩
set_option maxRecDepth 10000 in
set_option maxHeartbeats 16000000 in
theorem mergeGrows_any (r : Hp) (v : Value) (X : List ChR) (hv : ChRows r v X) (hn : X.length ≤ 140737488351232) (hc : ∀ x ∈ X, x.chs.length ≤ 140737488351232 ∧ ∀ c ∈ x.chs, c.path.length ≤ 140737488351232 ∧ c.data.length ≤ 140737488351232) :
    Tri Try.prog r 3 [v] [] fun w H => w = .bool true ∧ H = [] := by
  refine Tri.free2 fun R HR => ?_
  obtain ⟨hve, hvb⟩ := hv
  refine fn_of_sw Try.func3 rfl _ rfl ?_; refine aen Try.ntmps3 ?_
  repeat' (first | (refine acl Try.func4 ?_; refine acr (awake27_any _) ?_; rintro v' H' ⟨rfl, rfl⟩; all_goals refine apl ?_) | (exfalso; first | contradiction | omega) | refine aw0 ?_ | (refine ap2 ?_ ?_ <;> try intro h) | refine aw1 ?_ | (refine abx ?_; intro bb) | (refine abz ?_; intro bz) | (refine ahv ?_; intro v' hv') | (refine aac ?_; intro ac cc) | refine aw2 ?_ | (refine ap4 ?_ ?_ <;> try intro h) | apply True.intro)
  refine sw_loop (fun gm t H' => ∃ (k s : Nat), gm = X.length + 1 - k ∧ (k ≤ X.length) ∧ (3000 < s ∨ s = X.length + sizeR (X.take k)) ∧ (s ≤ 1000000000000000) ∧ (∃ G, Takes [] H' G) ∧ Sls t 97 [(0, v), (3, .int .i64 s), (4, .int .i64 k)]) _ ⟨0, X.length, rfl, Nat.zero_le _, .inr rfl, (by omega), ⟨[], by (exact atks)⟩, asls⟩ ?_
  rintro gm t H' ⟨k, s, rfl, hk, hs, hb, ⟨G, hp⟩, hs'⟩
  revert t; refine sls_all ?_; iterate 94 intro uu'
  refine sw_takeG hp ?_; clear hp
  by_cases hlt : k < X.length
  · have hmem : X.getD k default ∈ X := getD_memS hlt
    have hxr := hvb _ hmem
    have hst : sizeR (X.take (k + 1)) = sizeR (X.take k) + sizeC (X.getD k default).chs := by
      rw [take_getD (d := default) hlt, sizeR_app]; simp [sizeR]
    have hco := changesOf_any r _ _ 3000 hxr (hc _ hmem).2 (by omega)
    repeat' (first | (refine acl Try.func5 ?_; refine acr (hco) ?_; rintro v' H' ⟨⟨s1, rfl, hs1, hb1⟩, rfl⟩; all_goals refine apl ?_) | (exfalso; first | contradiction | omega) | refine aw0 ?_ | (refine ap2 ?_ ?_ <;> try intro h) | refine aw1 ?_ | (refine abx ?_; intro bb) | (refine abz ?_; intro bz) | (refine ahv ?_; intro v' hv') | (refine aac ?_; intro ac cc) | refine aw2 ?_ | (refine ap4 ?_ ?_ <;> try intro h) | apply True.intro)
    all_goals first
      | (exact ⟨_, by omega, k + 1, s + s1, rfl, by omega, by rw [hst]; omega, by omega, ⟨[], by (exact atks)⟩, asls⟩)
      | (((with_reducible apply fp_ret); exact res_1 rfl rfl)
         exact HR.out _ _ _ [] (by (exact atks)) ⟨rfl, rfl⟩)
  · obtain rfl : k = X.length := by omega
    rw [List.take_length] at hs
    by_cases hgo : s ≤ 3000 ∧ X.length ≤ 60
    · have hsz : sizeR X ≤ 3000 := by omega
      obtain ⟨hgo1, hgo2⟩ := hgo
      clear hs hb
      repeat' (first | (exfalso; first | contradiction | omega) | refine aw0 ?_ | (refine ap2 ?_ ?_ <;> try intro h) | refine aw1 ?_ | (refine abx ?_; intro bb) | (refine abz ?_; intro bz) | (refine ahv ?_; intro v' hv') | (refine aac ?_; intro ac cc) | refine aw2 ?_ | (refine ap4 ?_ ?_ <;> try intro h) | apply True.intro)
      refine sw_put (A := RowC 36 2 (.slice none 0 0) 0 []) (RowC.nil _ _) ?_
      refine sw_put (A := DeadP []) rfl ?_
      refine sw_put (A := FilP []) rfl ?_
      refine sw_put (A := FilC (.slice none 0 0) []) filC_nil ?_
      refine sw_loop (fun gm t H' => ∃ (k n : Nat) (N : List PartM) (F : List KeyM) (a5 a6 : Option Addr) (c5 c6 : Nat), gm = X.length + 1 - k ∧ (k ≤ X.length) ∧ (N.length = n) ∧ (n ≤ k) ∧ (partsOk (N.map PartM.key) = true) ∧ (liveK (N.map PartM.key) = F) ∧ (∃ G, Takes [RowC 36 2 (.slice a5 n c5) n (N.flatMap encMp), DeadP N, FilP N, FilC (.slice a6 F.length c6) F] H' G) ∧ Sls t 97 [(0, v), (5, .slice a5 n c5), (6, .slice a6 F.length c6), (7, .int .i64 k)]) _ ⟨0, 0, [], [], none, none, 0, 0, rfl, Nat.zero_le _, rfl, Nat.le_refl _, (by decide +kernel), (by decide +kernel), ⟨_, atks⟩, asls⟩ ?_
      rintro gm t H' ⟨k, n, N, F, a5, a6, c5, c6, rfl, hk, hN, hnk, ho, hF, ⟨G, hp⟩, hs'⟩
      revert t; refine sls_all ?_; iterate 93 intro uu'
      refine sw_takeG hp ?_; clear hp
      by_cases hlt : k < X.length
      · obtain ⟨x, hx⟩ : ∃ x, X.getD k default = x := ⟨_, rfl⟩
        have hxm : x ∈ X := hx ▸ getDm hlt
        have hxr : Chs r x.val x.chs := hvb x hxm
        have hxs := sizeR_mem hxm
        have hm1 : x.chs.length ≤ 3000 := by have := sizeC_len x.chs; omega
        have hcp : ∀ c ∈ x.chs, c.path.length ≤ 1000000 ∧ c.data.length ≤ 10000000 := fun c hc => by
          have h1 := sizeC_mem hc
          omega
        have hpb := parts_bounds ho
        have hFo : filesOkK F = true := hF ▸ (live_ok ho).2.2
        have hap : ∀ (r' g : Hp) (u : Value), sub r r' → sub g r' → FilC u F g → Tri Try.prog r' 6 [u, x.val] [] fun w H => match applyK F (x.chs.map chK) with
            | (some ks, _) => ∃ a c, w = .tuple #[.slice a ks.length c, .int .i64 0] ∧ H = [FilC (.slice a ks.length c) ks]
            | (none, e) => w = .tuple #[.slice none 0 0, .int .i64 e] ∧ H = [] := fun r' g u h1 h2 h3 => by
          obtain ⟨Z, hZ, hG⟩ := filC_files h3 h2
          obtain ⟨hb1, hb2⟩ := files_bounds (Z := Z) (hZ ▸ hFo)
          have h := apply_any r' u x.val Z x.chs hG (hxr.mono h1) (by omega) (by omega) hb1 hcp
          rw [hZ] at h
          exact h
        have hpl : ∀ (r' : Hp) (v' : Value), sub r r' → PartsR r' v' N → _ := fun r' v' h1 h2 => mplan_any r' v' x.val N x.chs h2 (hxr.mono h1) (by omega) (by omega) hpb hcp
        obtain ⟨⟨o, e⟩, hA⟩ : ∃ p, applyK F (x.chs.map chK) = p := ⟨_, rfl⟩
        rw [hA] at hap
        cases o with
        | none =>
          have hpk := planK_none ho (hF.symm ▸ hA)
          rw [hpk] at hpl
          have he := applyK_none hA
          dsimp only at hap hpl
          repeat' (first | (rw [hx]) | ((with_reducible refine swo_isCall 6 ?_); (with_reducible apply kx_lendC (A := FilC (.slice a6 F.length c6) F)); (exact atk); intro r1 g1 hr1 hg1 hA1; (refine acl Try.func6 ?_; refine acr (hap r1 g1 _ hr1 hg1 hA1) ?_; rintro v' H' ⟨rfl, rfl⟩; all_goals refine apl ?_)) | ((with_reducible refine swo_isCall 7 ?_); (with_reducible apply kx_lendC (A := RowC 36 2 (.slice a5 n c5) n (N.flatMap encMp))); (exact atk); intro r2 g2 hr2 hg2 hA2; (with_reducible apply kx_lendC (A := DeadP N)); (exact atk); intro r3 g3 hr3 hg3 hA3; (with_reducible apply kx_lendC (A := FilP N)); (exact atk); intro r4 g4 hr4 hg4 hA4; (refine acl Try.func7 ?_; refine acr (hpl r4 _ (hr2.trans (hr3.trans hr4)) (parts_own hN hA2 (fun b o e => hr4 b o (hr3 b o (hg2 b o e))) hA3 (fun b o e => hr4 b o (hg3 b o e)) hA4 hg4)) ?_; rintro v' H' ⟨rfl, rfl⟩; all_goals refine apl ?_)) | (exfalso; first | contradiction | omega) | refine aw0 ?_ | (refine ap2 ?_ ?_ <;> try intro h) | refine aw1 ?_ | (refine abx ?_; intro bb) | (refine abz ?_; intro bz) | (refine ahv ?_; intro v' hv') | (refine aac ?_; intro ac cc) | refine aw2 ?_ | (refine ap4 ?_ ?_ <;> try intro h) | apply True.intro)
          exact ⟨_, by omega, k + 1, n, N, F, a5, a6, c5, c6, rfl, by omega, hN, by omega, ho, hF, ⟨_, atks⟩, asls⟩
        | some B =>
          obtain ⟨hb, hbig, hBe, rfl⟩ := planK_apply ho (hF.symm ▸ hA)
          obtain ⟨rows, fresh, hpk⟩ := planK_some ho hb hbig
          have hps := plan_some ho hb hpk
          rw [hpk] at hpl
          obtain ⟨_, _, row, hrows, hwi, hnx, hlv, hcnt, hsame⟩ := hps
          rw [← hBe] at hlv
          clear hcnt hsame hwi hbig hb
          have hrl : rows.length = n := by rw [hrows, List.length_map, List.length_map, hN]
          dsimp only at hap hpl
          rw [hrl] at hpl
          repeat' (first | (rw [hx]) | ((with_reducible refine swo_isCall 6 ?_); (with_reducible apply kx_lendC (A := FilC (.slice a6 F.length c6) F)); (exact atk); intro r1 g1 hr1 hg1 hA1; (refine acl Try.func6 ?_; refine acr (hap r1 g1 _ hr1 hg1 hA1) ?_; rintro v' H' ⟨a7, c7, rfl, rfl⟩; all_goals refine apl ?_)) | ((with_reducible refine swo_isCall 7 ?_); (with_reducible apply kx_lendC (A := RowC 36 2 (.slice a5 n c5) n (N.flatMap encMp))); (exact atk); intro r2 g2 hr2 hg2 hA2; (with_reducible apply kx_lendC (A := DeadP N)); (exact atk); intro r3 g3 hr3 hg3 hA3; (with_reducible apply kx_lendC (A := FilP N)); (exact atk); intro r4 g4 hr4 hg4 hA4; (refine acl Try.func7 ?_; refine acr (hpl r4 _ (hr2.trans (hr3.trans hr4)) (parts_own hN hA2 (fun b o e => hr4 b o (hr3 b o (hg2 b o e))) hA3 (fun b o e => hr4 b o (hg3 b o e)) hA4 hg4)) ?_; rintro v' H' ⟨a10, c10, a11, c11, rfl, rfl⟩; all_goals refine apl ?_)) | (exfalso; first | contradiction | omega) | refine aw0 ?_ | (refine ap2 ?_ ?_ <;> try intro h) | refine aw1 ?_ | (refine abx ?_; intro bb) | (refine abz ?_; intro bz) | (refine ahv ?_; intro v' hv') | (refine aac ?_; intro ac cc) | refine aw2 ?_ | (refine ap4 ?_ ?_ <;> try intro h) | apply True.intro)
          refine sw_open (A := RowsC (.slice a10 n c10) rows) (B := fun Z : List RowI => [RowC 34 1 (.slice a10 n c10) Z.length (Z.map (·.val)), RowsP Z]) (by (exact atk)) rowsC_open fun Z hZ => ?_
          dsimp only [List.cons_append, List.nil_append]
          have hZl : Z.length = N.length := by rw [hN, ← hrl, ← hZ, List.length_map]
          refine sw_lendQ (A := RowC 34 1 (.slice a10 n c10) Z.length (Z.map (·.val))) (by (exact atk)) fun r5 g5 hr5 hg5 hA5 => ?_
          refine sw_lendQ (A := RowsP Z) (by (exact atk)) fun r6 g6 hr6 hg6 hA6 => ?_
          have hZe : Els r6 1 encRi (.slice a10 n c10) Z := ⟨fun _ => rfl, by rw [flat_Ri]; exact (hA5.sl hg5).mono hr6⟩
          have hZr := rowsP_in hA6 hg6
          refine sw_loop (fun gm t H' => ∃ (j : Nat), gm = n + 1 - j ∧ (j ≤ n) ∧ (∃ G, Takes [RowC 36 2 (.slice a5 n c5) n (((nextV N Z).take j ++ N.drop j).flatMap encMp), FilP N, FilC (.slice a7 B.length c7) B, FilC (.slice a11 fresh.length c11) fresh] H' G) ∧ Sls t 97 [(0, v), (5, .slice a5 n c5), (6, .slice a7 B.length c7), (7, .int .i64 k), (10, .slice a10 n c10), (11, .slice a11 fresh.length c11), (13, .int .i64 j)]) _ ⟨0, rfl, Nat.zero_le _, ⟨_, atks⟩, asls⟩ ?_
          rintro gm t H' ⟨j, rfl, hj, ⟨G, hp⟩, hs'⟩
          revert t; refine sls_all ?_; iterate 90 intro uu'
          refine sw_takeG hp ?_; clear hp
          by_cases hlt2 : j < n
          · obtain ⟨y, hy⟩ : ∃ y, N.getD j default = y := ⟨_, rfl⟩
            obtain ⟨z, hz⟩ : ∃ z, Z.getD j default = z := ⟨_, rfl⟩
            have hzm : z ∈ Z := hz ▸ getDm (by omega)
            have hz1 := (hZr z hzm).one
            have htn := take_nextV2 hZl (by omega) hy hz
            have hdj : N.drop j = y :: N.drop (j + 1) := by
              rw [List.drop_eq_getElem_cons (by omega), ← hy, List.getD_eq_getElem?_getD, List.getElem?_eq_getElem (by omega)]; rfl
            have hTl : ((nextV N Z).take j).length = j := by rw [List.length_take, nextV_len hZl]; omega
            obtain ⟨T, hT⟩ : ∃ T, (nextV N Z).take j = T := ⟨_, rfl⟩
            obtain ⟨D, hD⟩ : ∃ D, N.drop (j + 1) = D := ⟨_, rfl⟩
            rw [hT] at htn hTl
            have hDl : D.length + j + 1 = n := by rw [← hD, List.length_drop]; omega
            rw [hdj, hT, hD]
            have hset : ((T ++ y :: D).flatMap encMp).set (((j : Nat) : Int).toNat * 2 + 1) z.val = (T ++ ⟨y.fv, z.val, y.files, z.nums⟩ :: D).flatMap encMp := by
              have h := encMp_set (A := T) (B := D) (x := y) (v := z.val) (d := z.nums)
              rw [hTl] at h
              rw [Int.toNat_natCast]
              exact h
            have hul : ((T ++ y :: D).flatMap encMp).length = n * 2 := by
              rw [flat_len (sz := 2) (enc := encMp) (fun _ => rfl), List.length_append, List.length_cons]; omega
            repeat' (first | (rw [hz]) | (rw [hset]) | ((with_reducible apply kx_stCF); exact ty_size; rfl; rfl; (exact atk); exact hz1; (rw [hul]; omega); (refine apk ?_)) | (exfalso; first | contradiction | omega) | refine aw0 ?_ | (refine ap2 ?_ ?_ <;> try intro h) | refine aw1 ?_ | (refine abx ?_; intro bb) | (refine abz ?_; intro bz) | (refine ahv ?_; intro v' hv') | (refine aac ?_; intro ac cc) | refine aw2 ?_ | (refine ap4 ?_ ?_ <;> try intro h) | apply True.intro)
            exact ⟨_, by omega, j + 1, rfl, by omega, ⟨_, by rw [htn, hD, List.append_assoc]; exact atks⟩, asls⟩
          · obtain rfl : j = n := by omega
            rw [show (nextV N Z).take j ++ N.drop j = nextV N Z by rw [List.drop_of_length_le (by omega), List.append_nil, List.take_of_length_le (by rw [nextV_len hZl]; omega)]]
            have hfr : filesOkK fresh = true := by
              have h1 := (partsOk_iff.1 hnx).1 ⟨fresh, []⟩ (by unfold nextK; exact List.mem_append_right _ List.mem_cons_self)
              unfold oneOk at h1
              rw [Bool.and_eq_true] at h1
              exact h1.2
            repeat' (first | (exfalso; first | contradiction | omega) | refine aw0 ?_ | (refine ap2 ?_ ?_ <;> try intro h) | refine aw1 ?_ | (refine abx ?_; intro bb) | (refine abz ?_; intro bz) | (refine ahv ?_; intro v' hv') | (refine aac ?_; intro ac cc) | refine aw2 ?_ | (refine ap4 ?_ ?_ <;> try intro h) | apply True.intro)
            refine swo_openA (A := FilC (.slice a11 fresh.length c11) fresh) (B := fun Y : List FileV => [FilZ (.slice a11 fresh.length c11) Y]) (by (exact atk)) filC_open fun Y hY => ?_
            dsimp only [List.cons_append, List.nil_append]
            refine swo_joinA (As := [RowsP Z]) (D := DeadP (nextV N Z ++ [⟨.slice a11 fresh.length c11, .slice none 0 0, Y, []⟩])) (by (exact atks)) (fun h e => dead_next hZl h (all_one.1 e)) ?_
            refine swo_joinA (As := [FilP N, FilZ (.slice a11 fresh.length c11) Y]) (D := FilP (nextV N Z ++ [⟨.slice a11 fresh.length c11, .slice none 0 0, Y, []⟩])) (by (exact atks)) (fun h e => filP_next hZl h e) ?_
            obtain ⟨N', hN'⟩ : ∃ N', nextV N Z ++ [(⟨.slice a11 fresh.length c11, .slice none 0 0, Y, []⟩ : PartM)] = N' := ⟨_, rfl⟩
            have hNe : (nextV N Z).flatMap encMp ++ [.slice a11 fresh.length c11, .slice none 0 0] = N'.flatMap encMp := by rw [← hN', List.flatMap_append]; rfl
            have hNk : N'.map PartM.key = nextK (N.map PartM.key) rows fresh := by
              rw [← hN', List.map_append, nextV_key, hZ]
              unfold nextK
              rw [← hY]; rfl
            have hNl : N'.length = j + 1 := by rw [← hN', List.length_append, nextV_len hZl, hN]; rfl
            rw [← hNk] at hnx hlv
            have hpb2 := parts_bounds hnx
            have hli : ∀ (r' : Hp) (v' : Value), PartsR r' v' N' → Tri Try.prog r' 9 [v'] [] fun w H => ∃ a c, w = .slice a B.length c ∧ H = [FilC w B] := fun r' v' h2 => by
              have h := mlive_any r' v' N' h2 (by omega) (fun x hx f hf => (hpb2 x hx f hf).1) fun x hx f hf => by have := (hpb2 x hx f hf).2; omega
              rw [hlv] at h
              exact h
            have hsf : ∀ (r' g1 g2 : Hp) (u w : Value), FilC u B g1 → sub g1 r' → FilC w B g2 → sub g2 r' → Tri Try.prog r' 8 [u, w] [] fun x H => x = .bool true ∧ H = [] := fun r' g1 g2 u w h1 s1 h2 s2 => by
              obtain ⟨Z1, e1, f1⟩ := filC_files h1 s1
              obtain ⟨Z2, e2, f2⟩ := filC_files h2 s2
              have h := sameFiles_any r' u w Z1 Z2 f1 f2
              rw [decide_eq_true (e1.trans e2.symm)] at h
              exact h
            rw [hN']
            repeat' (first | (rw [hNe]) | (first | ((with_reducible apply kx_bs1); exact ty_el; exact ty_inf; rfl; rfl; rfl; intro bz; (refine apk ?_)) | ((with_reducible apply kx_bsN); exact ty_el; exact ty_inf; rfl; rfl; rfl; intro bz; (refine apk ?_))) | ((with_reducible refine swo_isApp ?_); (with_reducible apply kx_lend [(bz, .cells [.slice a11 fresh.length c11, .slice none 0 0].toArray 36 (0, 0))]); (exact atks); intro r5 hl5; (with_reducible apply kx_appS (news := [.slice a11 fresh.length c11, .slice none 0 0])); exact ty_el; exact ty_inf; rfl; rfl; rfl; rfl; exact (Sl.lit (n := 1) (Lent.h1 hl5) rfl (by simp [maxLen])); (exact atk); rfl; (unfold maxLen; omega); (omega); intro a' c'; refine apm ?_) | ((with_reducible refine swo_isCall 9 ?_); (with_reducible apply kx_lendC (A := RowC 36 2 (.slice a' (j + 1) c') (j + 1) (N'.flatMap encMp))); (exact atk); intro r2 g2 hr2 hg2 hA2; (with_reducible apply kx_lendC (A := DeadP N')); (exact atk); intro r3 g3 hr3 hg3 hA3; (with_reducible apply kx_lendC (A := FilP N')); (exact atk); intro r4 g4 hr4 hg4 hA4; (refine acl Try.func9 ?_; refine acr (hli r4 _ (parts_own hNl hA2 (fun b o e => hr4 b o (hr3 b o (hg2 b o e))) hA3 (fun b o e => hr4 b o (hg3 b o e)) hA4 hg4)) ?_; rintro v' H' ⟨a9, c9, rfl, rfl⟩; all_goals refine apl ?_)) | ((with_reducible refine swo_isCall 8 ?_); (with_reducible apply kx_lendC (A := FilC (.slice a9 B.length c9) B)); (exact atk); intro r7 g7 hr7 hg7 hA7; (with_reducible apply kx_lendC (A := FilC (.slice a7 B.length c7) B)); (exact atk); intro r8 g8 hr8 hg8 hA8; (refine acl Try.func8 ?_; refine acr (hsf r8 _ _ _ _ hA7 (fun b o e => hr8 b o (hg7 b o e)) hA8 hg8) ?_; rintro v' H' ⟨rfl, rfl⟩; all_goals refine apl ?_)) | (exfalso; first | contradiction | omega) | refine aw0 ?_ | (refine ap2 ?_ ?_ <;> try intro h) | refine aw1 ?_ | (refine abx ?_; intro bb) | (refine abz ?_; intro bz) | (refine ahv ?_; intro v' hv') | (refine aac ?_; intro ac cc) | refine aw2 ?_ | (refine ap4 ?_ ?_ <;> try intro h) | apply True.intro)
            exact ⟨_, by omega, k + 1, j + 1, N', B, a', a7, c', c7, rfl, by omega, hNl, by omega, hnx, hlv, ⟨_, atks⟩, asls⟩
      · repeat' (first | (exfalso; first | contradiction | omega) | refine aw0 ?_ | (refine ap2 ?_ ?_ <;> try intro h) | refine aw1 ?_ | (refine abx ?_; intro bb) | (refine abz ?_; intro bz) | (refine ahv ?_; intro v' hv') | (refine aac ?_; intro ac cc) | refine aw2 ?_ | (refine ap4 ?_ ?_ <;> try intro h) | apply True.intro)
        ((with_reducible apply fp_ret); exact res_1 rfl rfl)
        exact HR.out _ _ _ [] Takes.all ⟨rfl, rfl⟩
    · repeat' (first | (exfalso; first | contradiction | omega) | refine aw0 ?_ | (refine ap2 ?_ ?_ <;> try intro h) | refine aw1 ?_ | (refine abx ?_; intro bb) | (refine abz ?_; intro bz) | (refine ahv ?_; intro v' hv') | (refine aac ?_; intro ac cc) | refine aw2 ?_ | (refine ap4 ?_ ?_ <;> try intro h) | apply True.intro)
      all_goals
        ((with_reducible apply fp_ret); exact res_1 rfl rfl)
        exact HR.out _ _ _ [] Takes.all ⟨rfl, rfl⟩
end Go.Proofs.Ytmnehdpclnhmbaa
