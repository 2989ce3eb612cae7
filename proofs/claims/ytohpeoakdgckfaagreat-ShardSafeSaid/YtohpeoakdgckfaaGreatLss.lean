
/- mudlarklaw23.ShardSafe: its contract. -/
import Derived.Test.YtohpeoakdgckfaaGreatAws
import Derived.Test.YtohpeoakdgckfaaGreatBt
import Derived.Test.YtohpeoakdgckfaaGreatSf
namespace Go.Proofs.YtohpeoakdgckfaaGreat
open Go.RowKit Sx

theorem open_or (r : Hp) (v : Value) (fs : List FileV) (x : List UInt8) (p : Prop) (hok : filesOk fs = true) (hs : sizeF fs ≤ 1600) (hv : U8S r v x) (hb : x.length ≤ 1000000) (hp : p → x = shardB fs) (hn : ¬ p → okF x = false) : Tri Tryz.prog r 16 [v] [] fun w H => ∃ pv e, w = .tuple #[pv, .int .i64 e] ∧ (p ∨ e = 9) ∧ H = [] := by
  refine Tri.free2 fun R HR => ?_
  by_cases h : p
  · have hx := hp h
    subst hx
    exact (open_made r v fs hok hs hv).mono fun w H ⟨q, h1, h2⟩ => HR.out _ H H [] Takes.nil ⟨_, _, h1, .inl h, rfl⟩
  · exact (open_bad r v x hv hb (hn h)).mono fun w H ⟨h1, h2⟩ => HR.out _ H H [] Takes.nil ⟨_, _, h1, .inr rfl, rfl⟩
theorem pick_nat (r : Hp) (x : Int) (n : Nat) (hn : n ≤ 1000000000) : ∃ k : Nat, (0 < n → k < n) ∧ k ≤ n ∧ Tri Tryz.prog r 26 [.int .i64 x, .int .i64 n] [] fun w H => w = .int .i64 (k : Nat) ∧ H = [] := by
  have h := pick_any r x n (by omega)
  by_cases h0 : (n : Int) < 1
  · refine ⟨0, by omega, by omega, ?_⟩
    rw [if_pos h0] at h
    exact h
  · have h1 := Int.emod_nonneg x (show (n : Int) ≠ 0 by omega)
    have h2 := Int.emod_lt_of_pos x (show 0 < (n : Int) by omega)
    refine ⟨(x % n).toNat, by omega, by omega, ?_⟩
    rw [if_neg h0] at h
    rw [Int.toNat_of_nonneg h1]
    exact h
set_option maxRecDepth 10000 in
set_option maxHeartbeats 8000000 in
theorem shardSafe_any (r : Hp) (v u : Value) (fs : List FileV) (bit cut : Int) (mask : Nat) (more : List UInt8) (hv : Files r v fs) (hl : ∀ f ∈ fs, f.path.length ≤ 140737488351232 ∧ f.data.length ≤ 140737488351232) (hu : U8S r u more) (hml : more.length ≤ 140737488355328) (hmask : mask < 4294967296) : Tri Tryz.prog r 6 [v, .int .i64 bit, .int .u32 mask, .int .i64 cut, u] [] fun w H => w = .bool true ∧ H = [] := by
  refine Tri.free2 fun R HR => ?_
  have hfo := filesOf_any r v fs 1500 hv hl (by omega)
  rw [show ((1500 : Nat) : Int) = 1500 from rfl] at hfo
  by_cases hb : sizeF fs ≤ 1500 ∧ more.length ≤ 1500
  · obtain ⟨hb, hmo⟩ := hb
    have hmem := fun f (hf : f ∈ fs) => sizeF_mem hf
    have hmk := smake_any r v fs hv (by omega)
    have hdf := filesOk_any r v fs hv (fun f hf => by have := hmem f hf; omega)
    cases hok : filesOk fs
    · simp only [hok, Bool.false_eq_true, if_false] at hmk hdf
      refine fn_of_sw Tryz.func6 rfl _ rfl ?_; refine aen Tryz.ntmps6 ?_
      repeat' (first | (refine acl Tryz.func8 ?_; refine acr (awake23_any _) ?_; rintro v' H' ⟨rfl, rfl⟩; all_goals refine apl ?_) | (refine acl Tryz.func7 ?_; refine acr (hfo) ?_; rintro v' H' ⟨⟨s, rfl, hsz⟩, rfl⟩; all_goals refine apl ?_) | (refine acl Tryz.func10 ?_; refine acr (hmk) ?_; rintro v' H' ⟨rfl, rfl⟩; all_goals refine apl ?_) | (refine acl Tryz.func22 ?_; refine acr (hdf) ?_; rintro v' H' ⟨rfl, rfl⟩; all_goals refine apl ?_) | (exfalso; first | contradiction | omega) | refine aw0 ?_ | (refine ap2 ?_ ?_ <;> try intro h) | refine aw1 ?_ | (refine abx ?_; intro bb) | (refine abz ?_; intro bz) | (refine ahv ?_; intro v' hv') | (refine aac ?_; intro ac cc) | refine aw2 ?_ | (refine ap4 ?_ ?_ <;> try intro h) | apply True.intro)
      ((with_reducible apply fp_ret); exact res_1 rfl rfl)
      exact HR.out _ _ _ [] Takes.all ⟨rfl, rfl⟩
    · simp only [hok, if_true] at hmk hdf
      have hBl := shardB_len (fs := fs) (by omega)
      have hB8 : 8 ≤ (shardB fs).length := by
        have := frameB_len (shardP fs)
        unfold shardB
        omega
      have hop := fun r' v h => open_made r' v fs hok (by omega) h
      have hof := okF_shard (fs := fs) (by omega)
      have hoc := fun k (hk : k < (shardB fs).length) => okF_cut (fs := fs) (by omega) hk
      have hom := fun (hm : more ≠ []) => okF_more (fs := fs) (by omega) hm
      have hor := fun r' v x p h1 h2 h3 h4 => open_or r' v fs x p hok (by omega) h1 h2 h3 h4
      generalize shardB fs = B at hmk hBl hB8 hop hof hoc hom hor
      obtain ⟨kb, hkb1, hkb2, hpb⟩ := pick_nat r bit (8 * B.length) (by omega)
      obtain ⟨kc, hkc1, hkc2, hpc⟩ := pick_nat r cut B.length (by omega)
      have hkc := hoc kc (hkc1 (by omega))
      rw [show (((8 * B.length : Nat)) : Int) = 8 * (B.length : Int) by omega] at hpb
      have hbu := fun r' v (h : U8S r' v B) => burst_any r' v B kb mask h (by omega) (by omega) hmask
      have hXl := burstL_len 32 B kb mask
      have hXb := fun (h : burstL 32 B kb mask ≠ B) => okF_burst hof h
      generalize burstL 32 B kb mask = X at hbu hXl hXb
      have hqd : List.take ((kc : Int).toNat - Int.toNat 0) (List.drop (Int.toNat 0) B) = B.take kc := by
        rw [Int.toNat_natCast]; rfl
      have hox := fun r' v (h : U8S r' v X) => hor r' v X (X = B) h (by omega) (fun h => h) hXb
      have hoy := fun r' v (h : U8S r' v (B.take kc)) => open_bad r' v _ h (by rw [List.length_take]; omega) hkc
      have hoz := fun r' v (h : U8S r' v (B ++ more)) => hor r' v (B ++ more) (more.length = 0) h (by rw [List.length_append]; omega) (fun h => by rw [List.length_eq_zero_iff.1 h, List.append_nil]) (fun h => hom (fun e => h (by rw [e]; rfl)))
      have hap : ∀ r' v, Sl r' 1 v (B.length + more.length) (u8s B ++ u8s more) → U8S r' v (B ++ more) := fun r' v h => by
        show Sl r' 1 v (B ++ more).length (u8s (B ++ more))
        rw [List.length_append, show u8s (B ++ more) = u8s B ++ u8s more by simp [u8s]]
        exact h
      have hsf := fun r' v (h : ShR r' v (fs.map FileV.key)) => sfiles_any r' v (fs.map FileV.key) h (by rw [List.length_map]; have := sizeF_len fs; omega) (fun k hk => by
        obtain ⟨f, hf, rfl⟩ := List.mem_map.1 hk
        have := hmem f hf
        show f.data.length ≤ 1000000
        omega)
      have hsame := fun r' v w (h : ∃ Z : List FileV, Z.map FileV.key = fs.map FileV.key ∧ Files r' v Z) (h2 : Files r' w fs) => (show Tri Tryz.prog r' 23 [v, w] [] fun u H => u = .bool true ∧ H = [] from by
        obtain ⟨Z, h3, h4⟩ := h
        have h5 := sameFiles_any r' v w Z fs h4 h2
        rw [decide_eq_true h3] at h5
        exact h5)
      refine fn_of_sw Tryz.func6 rfl _ rfl ?_; refine aen Tryz.ntmps6 ?_
      repeat' (first | (refine acl Tryz.func8 ?_; refine acr (awake23_any _) ?_; rintro v' H' ⟨rfl, rfl⟩; all_goals refine apl ?_) | (refine acl Tryz.func7 ?_; refine acr (hfo) ?_; rintro v' H' ⟨⟨s, rfl, hsz⟩, rfl⟩; all_goals refine apl ?_) | (refine acl Tryz.func10 ?_; refine acr (hmk) ?_; rintro v' H' ⟨a1, c1, rfl, rfl⟩; all_goals refine apl ?_) | (refine acl Tryz.func22 ?_; refine acr (hdf) ?_; rintro v' H' ⟨rfl, rfl⟩; all_goals refine apl ?_) | ((with_reducible apply sw_lendQ (c := .region 10 _ _) (A := U8R (.slice a1 B.length c1) B)); (with_reducible (exact atk)); intro r1 g1 hr1 hg1 hA1; have hB1 := hA1.sl hg1) | (refine acl Tryz.func16 ?_; refine acr (hop _ _ hB1) ?_; rintro v' H' ⟨bp, rfl, rfl⟩; all_goals refine apl ?_) | ((with_reducible refine swo_isCall 24 ?_); (with_reducible apply kx_lendC (A := ShC bp (fs.map FileV.key))); (exact atk); intro r2 g2 hr2 hg2 hA2; (refine acl Tryz.func24 ?_; refine acr (hsf r2 _ (shC_read hA2 hg2)) ?_; rintro v' H' ⟨a2, c2, rfl, rfl⟩; all_goals refine apl ?_)) | ((with_reducible refine swo_isCall 23 ?_); (with_reducible apply kx_lendC (A := FilC (.slice a2 (fs.map FileV.key).length c2) (fs.map FileV.key))); (exact atk); intro r2 g2 hr2 hg2 hA2; (refine acl Tryz.func23 ?_; refine acr (hsame r2 _ _ (filC_files hA2 hg2) ⟨hv.1.mono hr2, fun f hf => (hv.2 f hf).mono hr2⟩) ?_; rintro v' H' ⟨rfl, rfl⟩; all_goals refine apl ?_)) | (refine acl Tryz.func26 ?_; refine acr (hpb) ?_; rintro v' H' ⟨rfl, rfl⟩; all_goals refine apl ?_) | (refine acl Tryz.func26 ?_; refine acr (hpc) ?_; rintro v' H' ⟨rfl, rfl⟩; all_goals refine apl ?_) | (refine acl Tryz.func26 ?_; refine acr (hpc.up hr1) ?_; rintro v' H' ⟨rfl, rfl⟩; all_goals refine apl ?_) | ((with_reducible refine swo_isCall 25 ?_); (with_reducible apply kx_lendC (A := U8R (.slice a1 B.length c1) B)); (exact atk); intro r2 g2 hr2 hg2 hA2; (refine acl Tryz.func25 ?_; refine acr (hbu r2 _ (hA2.sl hg2)) ?_; rintro v' H' ⟨a3, c3, rfl, rfl⟩; all_goals refine apl ?_)) | ((with_reducible apply sw_lendQ (c := .region 14 _ _) (A := U8R (.slice a3 X.length c3) X)); (with_reducible (exact atk)); intro r1 g1 hr1 hg1 hA1; have hX1 := hA1.sl hg1) | (refine acl Tryz.func16 ?_; refine acr (hox _ _ hX1) ?_; rintro v' H' ⟨px, ex, rfl, hex, rfl⟩; all_goals refine apl ?_) | ((with_reducible apply sw_lendQ (c := .region 15 _ _) (A := U8R (.slice a1 B.length c1) B)); (with_reducible (exact atk)); intro r1 g1 hr1 hg1 hA1; have hB1 := hA1.sl hg1) | (rw [hqd] at hv') | (refine acl Tryz.func16 ?_; refine acr (hoy _ _ hv') ?_; rintro v' H' ⟨rfl, rfl⟩; all_goals refine apl ?_) | ((with_reducible apply sw_lendQ (c := .region 16 _ _) (A := U8R (.slice a1 B.length c1) B)); (with_reducible (exact atk)); intro r1 g1 hr1 hg1 hA1; have hB1 := hA1.sl hg1; have hu1 := hu.mono hr1) | ((with_reducible apply kx_bs0R); exact ty_el; exact ty_inf; intro bz0; (refine apk ?_)) | ((with_reducible refine swo_isApp ?_); (with_reducible apply kx_appS (news := u8s B)); exact ty_el; exact ty_inf; rfl; rfl; rfl; rfl; exact hB1; (exact atk); exact (u8s_one _); (unfold maxLen; omega); (omega); intro a7 c7; refine apm ?_) | ((with_reducible refine swo_isApp ?_); (with_reducible apply kx_appS (news := u8s more)); exact ty_el; exact ty_inf; rfl; rfl; rfl; rfl; exact hu1; (exact atk); exact (u8s_one _); (unfold maxLen; omega); (omega); intro a8 c8; refine apm ?_) | (simp only [Nat.zero_add]) | ((with_reducible refine swo_isCall 16 ?_); (with_reducible apply kx_lendC (A := RowC 5 1 (.slice a8 (B.length + more.length) c8) (B.length + more.length) (u8s B ++ u8s more))); (exact atk); intro r2 g2 hr2 hg2 hA2; (refine acl Tryz.func16 ?_; refine acr (hoz _ _ (hap _ _ (hA2.sl hg2))) ?_; rintro v' H' ⟨pz, ez, rfl, hez, rfl⟩; all_goals refine apl ?_)) | ((with_reducible refine swo_isCall 12 ?_); (with_reducible apply kx_lendC (A := U8R (.slice a3 X.length c3) X)); (exact atk); intro r2 g2 hr2 hg2 hA2; (with_reducible apply kx_lendC (A := U8R (.slice a1 B.length c1) B)); (exact atk); intro r3 g3 hr3 hg3 hA3; (refine acl Tryz.func12 ?_; refine acr (sameBytes_any r3 _ _ X B ((hA2.sl hg2).mono hr3) (hA3.sl hg3)) ?_; rintro v' H' ⟨rfl, rfl⟩; all_goals refine apl ?_)) | (exfalso; first | contradiction | omega) | refine aw0 ?_ | (refine ap2 ?_ ?_ <;> try intro h) | refine aw1 ?_ | (refine abx ?_; intro bb) | (refine abz ?_; intro bz) | (refine ahv ?_; intro v' hv') | (refine aac ?_; intro ac cc) | refine aw2 ?_ | (refine ap4 ?_ ?_ <;> try intro h) | apply True.intro)
      all_goals ((with_reducible apply fp_ret); exact res_1 rfl rfl)
      all_goals refine HR.out _ _ _ [] Takes.all ⟨?_, rfl⟩
      all_goals first | rfl | (rw [hez.resolve_left (by omega)]; rfl) | (exfalso; rcases hex with e | e <;> first | contradiction | omega)
  · refine fn_of_sw Tryz.func6 rfl _ rfl ?_; refine aen Tryz.ntmps6 ?_
    repeat' (first | refine aw0m ?_ | (refine ap2 ?_ ?_ <;> try intro h) | (refine acl Tryz.func8 ?_; refine acr (awake23_any _) ?_; rintro v' H' ⟨rfl, rfl⟩; all_goals refine apl ?_) | (refine acl Tryz.func7 ?_; refine acr (hfo) ?_; rintro v' H' ⟨⟨s, rfl, hsz⟩, rfl⟩; all_goals refine apl ?_) | (exfalso; first | contradiction | omega) | refine aw1m ?_ | (refine abx ?_; intro bb) | (refine abz ?_; intro bz) | (refine ahv ?_; intro v' hv') | (refine aac ?_; intro ac cc) | refine aw2 ?_ | (refine ap4 ?_ ?_ <;> try intro h) | apply True.intro)
    all_goals ((with_reducible apply fp_ret); exact res_1 rfl rfl)
    all_goals exact HR.out _ _ _ [] (by (exact atks)) ⟨rfl, rfl⟩
end Go.Proofs.YtohpeoakdgckfaaGreat
