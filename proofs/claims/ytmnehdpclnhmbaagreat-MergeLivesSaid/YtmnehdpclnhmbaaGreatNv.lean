
/- mudlarklaw27.MergeLives: for every input it returns true. -/
import Derived.Test.YtmnehdpclnhmbaaGreatNu
namespace Go.Proofs.YtmnehdpclnhmbaaGreat
open Go.RowKit Go.Maps Sx

theorem nothingK_eq {K : List KeyM} {l : List ChK} (hK : filesOkK K = true) (hb : batchOk l = true) (hbig : (behindK K l).length ≤ 4000) : nothingK K l = decide ((diffK K (behindK K l)).length = 0) := by
  unfold nothingK applyK
  rw [hK, hb]
  simp only [Bool.and_self, if_true, if_pos hbig]
theorem take_nextV {X : List PartM} {Z : List RowI} (h : Z.length = X.length) {k : Nat} (hk : k < X.length) {x : PartM} {z : RowI} (hx : X.getD k default = x) (hz : Z.getD k default = z) : (nextV X Z).take (k + 1) = (nextV X Z).take k ++ [⟨x.fv, z.val, x.files, z.nums⟩] := by
  rw [take_getD (d := default) (by rw [nextV_len h]; exact hk), nextV_get h hk, hx, hz]
theorem count_one (b : Bool) (x : PartM) (h : livesK x.key = b) : ([x].map PartM.key).countP livesK = one01 b := by
  subst h
  rw [List.map_singleton, List.countP_cons, List.countP_nil, Nat.zero_add]; rfl
theorem rows_at {X : List PartM} {Z : List RowI} {row : PartK → List Int} (h : Z.map (·.nums) = (X.map PartM.key).map row) (hl : Z.length = X.length) {k : Nat} (hk : k < X.length) {x : PartM} {z : RowI} (hx : X.getD k default = x) (hz : Z.getD k default = z) : z.nums = row x.key := by
  have h1 := congrArg (fun l => l[k]?) h
  simp only [List.getElem?_map] at h1
  rw [List.getElem?_eq_getElem hk, List.getElem?_eq_getElem (show k < Z.length by omega)] at h1
  simp only [Option.map_some, Option.some.injEq] at h1
  rw [List.getD_eq_getElem?_getD, List.getElem?_eq_getElem hk] at hx
  rw [List.getD_eq_getElem?_getD, List.getElem?_eq_getElem (show k < Z.length by omega)] at hz
  rw [← hx, ← hz]
  exact h1
theorem map_dead {X : List PartM} {Z : List RowI} (h : Z.map (·.nums) = X.map (·.dead)) : (nextV X Z).map (·.dead) = X.map (·.dead) := by
  induction X generalizing Z with
  | nil => rfl
  | cons x X ih =>
    cases Z with
    | nil => cases h
    | cons z Z =>
      rw [List.map_cons, List.map_cons, List.cons.injEq] at h
      show z.nums :: (nextV X Z).map (·.dead) = x.dead :: X.map (·.dead)
      rw [h.1, ih h.2]
set_option maxRecDepth 10000 in
set_option maxHeartbeats 16000000 in
theorem mergeLives_any (r : Hp) (v vl : Value) (X : List PartM) (cs : List ChV) (hv : PartsR r v X) (hl : Chs r vl cs) (hn : X.length ≤ 140737488351232) (hd : ∀ x ∈ X, x.dead.length ≤ 140737488351232) (hp : ∀ x ∈ X, ∀ f ∈ x.files, f.path.length ≤ 140737488351232 ∧ f.data.length ≤ 140737488351232) (hc : ∀ f ∈ cs, f.path.length ≤ 140737488351232 ∧ f.data.length ≤ 140737488351232) :
    Tri Tryz.prog r 3 [v, vl] [] fun w H => w = .bool true ∧ H = [] := by
  refine Tri.free2 fun R HR => ?_
  have hvp := hv.1
  refine fn_of_sw Tryz.func3 rfl _ rfl ?_; refine aen Tryz.ntmps3 ?_
  repeat' (first | (refine acl Tryz.func4 ?_; refine acr (awake27_any _) ?_; rintro v' H' ⟨rfl, rfl⟩; all_goals refine apl ?_) | (exfalso; first | contradiction | omega) | refine aw0 ?_ | (refine ap2 ?_ ?_ <;> try intro h) | refine aw1 ?_ | (refine abx ?_; intro bb) | (refine abz ?_; intro bz) | (refine ahv ?_; intro v' hv') | (refine aac ?_; intro ac cc) | refine aw2 ?_ | (refine ap4 ?_ ?_ <;> try intro h) | apply True.intro)
  (refine acl Tryz.func5 ?_; refine acr (great_any r v vl X cs hv hl hn hd hp hc) ?_; rintro v' H' ⟨⟨g, rfl, hg⟩, rfl⟩; all_goals refine apl ?_)
  cases g
  · have hsz := hg rfl
    clear hg
    have hn1 : X.length ≤ 3000 := by omega
    have hm1 : cs.length ≤ 3000 := by have := sizeC_len cs; omega
    have hpx : ∀ x ∈ X, ∀ f ∈ x.files, f.path.length ≤ 1000000 ∧ f.data.length ≤ 10000000 := fun x hx f hf => by
      have h1 := sizeM_mem hx
      have h2 := sizeF_mem hf
      omega
    have hcp : ∀ c ∈ cs, c.path.length ≤ 1000000 ∧ c.data.length ≤ 10000000 := fun c hc => by
      have h1 := sizeC_mem hc
      omega
    have hdx : ∀ x ∈ X, x.dead.length ≤ 3000 := fun x hx => by have h1 := sizeM_mem hx; omega
    have hmr := mright_any r v X hv (by omega) fun x hx f hf => (hpx x hx f hf).1
    have hbr := bright_any r vl cs hl (by omega) fun c hc => (hcp c hc).1
    cases ho : partsOk (X.map PartM.key)
    · rw [ho] at hmr
      repeat' (first | (refine acl Tryz.func6 ?_; refine acr (hmr) ?_; rintro v' H' ⟨rfl, rfl⟩; all_goals refine apl ?_) | (exfalso; first | contradiction | omega) | refine aw0 ?_ | (refine ap2 ?_ ?_ <;> try intro h) | refine aw1 ?_ | (refine abx ?_; intro bb) | (refine abz ?_; intro bz) | (refine ahv ?_; intro v' hv') | (refine aac ?_; intro ac cc) | refine aw2 ?_ | (refine ap4 ?_ ?_ <;> try intro h) | apply True.intro)
      ((with_reducible apply fp_ret); exact res_1 rfl rfl)
      exact HR.out _ _ _ [] Takes.all ⟨rfl, rfl⟩
    · rw [ho] at hmr
      cases hb : batchOk (cs.map chK)
      · rw [hb] at hbr
        repeat' (first | (refine acl Tryz.func6 ?_; refine acr (hmr) ?_; rintro v' H' ⟨rfl, rfl⟩; all_goals refine apl ?_) | (refine acl Tryz.func7 ?_; refine acr (hbr) ?_; rintro v' H' ⟨rfl, rfl⟩; all_goals refine apl ?_) | (exfalso; first | contradiction | omega) | refine aw0 ?_ | (refine ap2 ?_ ?_ <;> try intro h) | refine aw1 ?_ | (refine abx ?_; intro bb) | (refine abz ?_; intro bz) | (refine ahv ?_; intro v' hv') | (refine aac ?_; intro ac cc) | refine aw2 ?_ | (refine ap4 ?_ ?_ <;> try intro h) | apply True.intro)
        ((with_reducible apply fp_ret); exact res_1 rfl rfl)
        exact HR.out _ _ _ [] Takes.all ⟨rfl, rfl⟩
      · rw [hb] at hbr
        have hml := mlive_any r v X hv (by omega) (fun x hx f hf => (hpx x hx f hf).1) fun x hx f hf => by have := (hpx x hx f hf).2; omega
        have hKo := (live_ok ho).2.2
        obtain ⟨K, hK⟩ : ∃ K, liveK (X.map PartM.key) = K := ⟨_, rfl⟩
        have hap : ∀ (r' g : Hp) (u : Value), sub r r' → sub g r' → FilC u K g → Tri Tryz.prog r' 9 [u, vl] [] fun w H => match applyK K (cs.map chK) with
            | (some ks, _) => ∃ a c, w = .tuple #[.slice a ks.length c, .int .i64 0] ∧ H = [FilC (.slice a ks.length c) ks]
            | (none, e) => w = .tuple #[.slice none 0 0, .int .i64 e] ∧ H = [] := fun r' g u h1 h2 h3 => by
          obtain ⟨Z, hZ, hF⟩ := filC_files h3 h2
          obtain ⟨hb1, hb2⟩ := live_bounds ho hpx (hZ.trans hK.symm)
          have h := apply_any r' u vl Z cs hF (hl.mono h1) (by omega) (by omega) hb1 hcp
          rw [hZ] at h
          exact h
        have hpl := mplan_any r v vl X cs hv hl (by omega) (by omega) hpx hcp
        by_cases hbig : (behindK K (cs.map chK)).length ≤ 4000
        · obtain ⟨B, hB⟩ : ∃ B, behindK K (cs.map chK) = B := ⟨_, rfl⟩
          obtain ⟨rows, fresh, hpk⟩ := planK_some ho hb (by rw [hK]; exact hbig)
          have hps := plan_some ho hb hpk
          rw [hpk] at hpl
          have hA : applyK K (cs.map chK) = (some B, 0) := by
            unfold applyK
            rw [← hK, hKo, hK, hb, if_pos hbig, hB]; rfl
          rw [hA] at hap
          rw [hK] at hml hKo hps
          have hBo : filesOkK B = true := hB ▸ behind_ok hKo hb hbig
          have hno := nothingK_eq hKo hb hbig
          rw [hB] at hps hno
          obtain ⟨_, _, row, hrows, hwi, hnx, hlv, hcnt, hsame⟩ := hps
          have hrl : rows.length = X.length := by rw [hrows, List.length_map, List.length_map]
          dsimp only at hpl hap
          rw [hrl] at hpl
          have hfr : filesOkK fresh = true := by
            have h1 := (partsOk_iff.1 hnx).1 ⟨fresh, []⟩ (by unfold nextK; exact List.mem_append_right _ List.mem_cons_self)
            unfold oneOk at h1
            rw [Bool.and_eq_true] at h1
            exact h1.2
          repeat' (first | (refine acl Tryz.func6 ?_; refine acr (hmr) ?_; rintro v' H' ⟨rfl, rfl⟩; all_goals refine apl ?_) | (refine acl Tryz.func7 ?_; refine acr (hbr) ?_; rintro v' H' ⟨rfl, rfl⟩; all_goals refine apl ?_) | (refine acl Tryz.func8 ?_; refine acr (hml) ?_; rintro v' H' ⟨a1, c1, rfl, rfl⟩; all_goals refine apl ?_) | ((with_reducible refine swo_isCall 9 ?_); (with_reducible apply kx_lendC (A := FilC (.slice a1 K.length c1) K)); (exact atk); intro r' gg hr hgr hgg; (refine acl Tryz.func9 ?_; refine acr (hap r' gg _ hr hgr hgg) ?_; rintro v' H' ⟨a2, c2, rfl, rfl⟩; all_goals refine apl ?_)) | (refine acl Tryz.func10 ?_; refine acr (hpl) ?_; rintro v' H' ⟨a3, c3, a4, c4, rfl, rfl⟩; all_goals refine apl ?_) | (exfalso; first | contradiction | omega) | refine aw0 ?_ | (refine ap2 ?_ ?_ <;> try intro h) | refine aw1 ?_ | (refine abx ?_; intro bb) | (refine abz ?_; intro bz) | (refine ahv ?_; intro v' hv') | (refine aac ?_; intro ac cc) | refine aw2 ?_ | (refine ap4 ?_ ?_ <;> try intro h) | apply True.intro)
          refine sw_open (A := RowsC (.slice a3 X.length c3) rows) (B := fun Z : List RowI => [RowC 36 1 (.slice a3 X.length c3) Z.length (Z.map (·.val)), RowsP Z]) (by (exact atk)) rowsC_open fun Z hZ => ?_
          dsimp only [List.cons_append, List.nil_append]
          have hZl : Z.length = X.length := by rw [← hrl, ← hZ, List.length_map]
          have hkey : (nextV X Z).map PartM.key ++ [⟨fresh, []⟩] = nextK (X.map PartM.key) rows fresh := by rw [nextV_key, hZ]; rfl
          have hny : ∀ y ∈ nextV X Z, oneOk y.key = true := fun y hy => (partsOk_iff.1 hnx).1 y.key (by rw [← hkey]; exact List.mem_append_left _ (List.mem_map_of_mem hy))
          refine sw_put (A := RowC 38 2 (.slice none 0 0) 0 []) (RowC.nil _ _) ?_
          refine sw_lendQ (A := RowC 36 1 (.slice a3 X.length c3) Z.length (Z.map (·.val))) (by (exact atk)) fun r1 g1 hr1 hg1 hA1 => ?_
          refine sw_lendQ (A := RowsP Z) (by (exact atk)) fun r2 g2 hr2 hg2 hA2 => ?_
          have hZe : Els r2 1 encRi (.slice a3 X.length c3) Z := ⟨fun _ => rfl, by rw [flat_Ri]; exact (hA1.sl hg1).mono hr2⟩
          have hZr := rowsP_in hA2 hg2
          have hvq : Els r2 2 encMp v X := hvp.mono (hr1.trans hr2)
          refine sw_loop (fun gm t H' => ∃ (k lives was : Nat) (more : Int) (a6 : Option Addr) (c6 : Nat), gm = X.length + 1 - k ∧ (k ≤ X.length) ∧ (lives = (((nextV X Z).take k).map PartM.key).countP livesK) ∧ (was = ((X.take k).map PartM.key).countP livesK) ∧ (more = (deadN ((nextV X Z).take k) : Int) - deadN (X.take k)) ∧ (-4000 * (k : Int) ≤ more ∧ more ≤ 4000 * (k : Int)) ∧ (∃ G, Takes [FilC (.slice a1 K.length c1) K, FilC (.slice a2 B.length c2) B, FilC (.slice a4 fresh.length c4) fresh, RowC 38 2 (.slice a6 k c6) k (((nextV X Z).take k).flatMap encMp)] H' G) ∧ Sls t 160 [(0, v), (1, vl), (5, .slice a1 K.length c1), (6, .slice a2 B.length c2), (8, .slice a3 X.length c3), (9, .slice a4 fresh.length c4), (11, .slice a6 k c6), (12, .int .i64 lives), (13, .int .i64 was), (14, .int .i64 more), (15, .int .i64 k)]) _ ⟨0, 0, 0, 0, none, 0, rfl, Nat.zero_le _, rfl, rfl, rfl, by omega, ⟨_, atks⟩, asls⟩ ?_
          rintro gm t H' ⟨k, lives, was, more, a6, c6, rfl, hk, hlc, hwc, hmo, hmb, ⟨G, hp⟩, hs'⟩
          revert t; refine sls_all ?_; iterate 149 intro uu'
          refine sw_takeG hp ?_; clear hp
          have hll : lives ≤ 3000 := by
            rw [hlc]
            refine Nat.le_trans List.countP_le_length ?_
            rw [List.length_map, List.length_take, nextV_len hZl]
            omega
          have hwl : was ≤ 3000 := by
            rw [hwc]
            refine Nat.le_trans List.countP_le_length ?_
            rw [List.length_map, List.length_take]
            omega
          by_cases hlt : k < X.length
          · obtain ⟨x, hx⟩ : ∃ x, X.getD k default = x := ⟨_, rfl⟩
            obtain ⟨z, hz⟩ : ∃ z, Z.getD k default = z := ⟨_, rfl⟩
            have hxm : x ∈ X := hx ▸ getDm hlt
            have hzm : z ∈ Z := hz ▸ getDm (by omega)
            have htn := take_nextV hZl hlt hx hz
            have hxe : encMp x = [x.fv, x.dv] := rfl
            have htk : X.take (k + 1) = X.take k ++ [x] := by rw [take_getD (d := default) hlt, hx]
            have hxr := hv.2 x hxm
            have hxq := hxr.mono (hr1.trans hr2)
            have hfe := hxq.1.1
            have hde := hxq.2
            have hze := hZr z hzm
            have hx1 := hfe.one
            have hz1 := hze.one
            have hy : (⟨x.fv, z.val, x.files, z.nums⟩ : PartM) ∈ nextV X Z := by
              have h := nextV_get hZl hlt
              rw [hx, hz] at h
              rw [← h]
              exact getDm (by rw [nextV_len hZl]; exact hlt)
            have hyo := hny _ hy
            have hyd := one_dead' hyo
            have hzl : z.nums.length ≤ 4000 := by
              have h1 : z.nums.length ≤ (x.files.map FileV.key).length := one_len hyo
              have h2 : x.files.length ≤ 4000 := hyd.2
              rw [List.length_map] at h1
              omega
            have hxl := hdx x hxm
            have hxo := (partsOk_iff.1 ho).1 x.key (List.mem_map_of_mem hxm)
            have hL1 := mlives_any r2 ⟨x.fv, z.val, x.files, z.nums⟩ ⟨hxq.1, hze⟩ hyd.1
            have hL2 := mlives_any r2 x hxq (one_dead' hxo).1
            have hwt : withinK x.dead z.nums = true := by
              rw [rows_at (hZ.trans hrows) hZl hlt hx hz]
              exact hwi x.key (List.mem_map_of_mem hxm)
            have hwn := within_any r2 x.dv z.val x.dead z.nums hde hze
            rw [hwt] at hwn
            cases hq1 : livesK (⟨x.fv, z.val, x.files, z.nums⟩ : PartM).key <;> cases hq2 : livesK x.key
            all_goals
              rw [hq1] at hL1
              rw [hq2] at hL2
              repeat' (first | (rw [hx]) | (rw [hxe]) | (rw [hz]) | (first | ((with_reducible apply sw_draw (id := 19) 11 [(0, true), (1, true), (2, true), (3, true), (4, true), (5, true), (6, true), (7, true), (8, true), (9, true), (10, false)] [(11, false)] []); kernel_rfl; (exact atks); kernel_rfl; intro r' hl') | ((with_reducible apply sw_draw (id := 25) 14 [(0, true), (1, true), (2, true), (3, true), (4, true), (5, true), (6, true), (7, true), (8, true), (9, true), (10, true), (11, true), (12, true), (13, true)] [(14, false)] []); kernel_rfl; (exact atks); kernel_rfl; intro r' hl') | ((with_reducible apply sw_draw (id := 26) 11 [(0, true), (1, true), (2, true), (3, true), (4, true), (5, true), (6, true), (7, true), (8, true), (9, false), (10, true)] [] []); kernel_rfl; (exact atks); kernel_rfl; intro r' hl')) | ((with_reducible apply kx_alloc (E := 38)); exact ty_zero; (exact qcl); intro b16; (refine apk ?_)) | (first | ((with_reducible apply kx_bs1); exact ty_el; exact ty_inf; rfl; rfl; rfl; intro bz; (refine apk ?_)) | ((with_reducible apply kx_bsN); exact ty_el; exact ty_inf; rfl; rfl; rfl; intro bz; (refine apk ?_))) | ((with_reducible refine swo_isApp ?_); (with_reducible apply kx_lend [(bz, .cells [x.fv, z.val].toArray 38 (0, 0))]); (exact atks); intro r5 hl5; (with_reducible apply kx_appS (news := [x.fv, z.val])); exact ty_el; exact ty_inf; rfl; rfl; rfl; rfl; exact (Sl.lit (n := 1) (Lent.h1 hl5) rfl (by simp [maxLen])); (exact atk); (simp only [List.all_cons, List.all_nil, hx1, hz1]; rfl); (unfold maxLen; omega); (omega); intro a' c'; refine apm ?_) | (refine acl Tryz.func11 ?_; refine acr (hL1) ?_; rintro v' H' ⟨rfl, rfl⟩; all_goals refine apl ?_) | (refine acl Tryz.func11 ?_; refine acr (hL2) ?_; rintro v' H' ⟨rfl, rfl⟩; all_goals refine apl ?_) | (refine acl Tryz.func12 ?_; refine acr (hwn.up hl'.1) ?_; rintro v' H' ⟨rfl, rfl⟩; all_goals refine apl ?_) | (exfalso; first | contradiction | omega) | refine aw0 ?_ | (refine ap2 ?_ ?_ <;> try intro h) | refine aw1 ?_ | (refine abx ?_; intro bb) | (refine abz ?_; intro bz) | (refine ahv ?_; intro v' hv') | (refine aac ?_; intro ac cc) | refine aw2 ?_ | (refine ap4 ?_ ?_ <;> try intro h) | apply True.intro)
              first | (exact ⟨_, by omega, k + 1, lives, was, more + z.nums.length - x.dead.length, a', c', rfl, by omega, by rw [htn, List.map_append, List.countP_append, ← hlc, count_one _ _ hq1]; rfl, by rw [htk, List.map_append, List.countP_append, ← hwc, count_one _ _ hq2]; rfl, by rw [htn, htk, deadN_app, deadN_app]; simp only [deadN]; omega, by omega, ⟨_, by rw [htn, List.flatMap_append, show [(⟨x.fv, z.val, x.files, z.nums⟩ : PartM)].flatMap encMp = [x.fv, z.val] from rfl]; exact atks⟩, asls⟩) | (exact ⟨_, by omega, k + 1, lives, was + 1, more + z.nums.length - x.dead.length, a', c', rfl, by omega, by rw [htn, List.map_append, List.countP_append, ← hlc, count_one _ _ hq1]; rfl, by rw [htk, List.map_append, List.countP_append, ← hwc, count_one _ _ hq2]; rfl, by rw [htn, htk, deadN_app, deadN_app]; simp only [deadN]; omega, by omega, ⟨_, by rw [htn, List.flatMap_append, show [(⟨x.fv, z.val, x.files, z.nums⟩ : PartM)].flatMap encMp = [x.fv, z.val] from rfl]; exact atks⟩, asls⟩) | (exact ⟨_, by omega, k + 1, lives + 1, was, more + z.nums.length - x.dead.length, a', c', rfl, by omega, by rw [htn, List.map_append, List.countP_append, ← hlc, count_one _ _ hq1]; rfl, by rw [htk, List.map_append, List.countP_append, ← hwc, count_one _ _ hq2]; rfl, by rw [htn, htk, deadN_app, deadN_app]; simp only [deadN]; omega, by omega, ⟨_, by rw [htn, List.flatMap_append, show [(⟨x.fv, z.val, x.files, z.nums⟩ : PartM)].flatMap encMp = [x.fv, z.val] from rfl]; exact atks⟩, asls⟩) | (exact ⟨_, by omega, k + 1, lives + 1, was + 1, more + z.nums.length - x.dead.length, a', c', rfl, by omega, by rw [htn, List.map_append, List.countP_append, ← hlc, count_one _ _ hq1]; rfl, by rw [htk, List.map_append, List.countP_append, ← hwc, count_one _ _ hq2]; rfl, by rw [htn, htk, deadN_app, deadN_app]; simp only [deadN]; omega, by omega, ⟨_, by rw [htn, List.flatMap_append, show [(⟨x.fv, z.val, x.files, z.nums⟩ : PartM)].flatMap encMp = [x.fv, z.val] from rfl]; exact atks⟩, asls⟩)
          · obtain rfl : k = X.length := by omega
            rw [show (nextV X Z).take X.length = nextV X Z by rw [← nextV_len hZl, List.take_length]] at hlc hmo ⊢
            rw [List.take_length] at hwc hmo
            rw [nextV_key, hZ, hrows, zip_mapR, List.countP_map] at hlc
            have hcnt2 : lives + (if fresh.isEmpty then 0 else 1) ≤ 40 := by rw [hlc]; exact hcnt
            have hread : ∀ {r' g1 g2 g3 : Hp} {v' : Value}, sub r r' → RowC 38 2 v' (X.length + 1) ((nextV X Z).flatMap encMp ++ [.slice a4 fresh.length c4, .slice none 0 0]) g1 → sub g1 r' → RowsP Z g2 → sub g2 r' → FilC (.slice a4 fresh.length c4) fresh g3 → sub g3 r' → ∃ N : List PartM, N.map PartM.key = nextK (X.map PartM.key) rows fresh ∧ PartsR r' v' N ∧ N.length = X.length + 1 ∧ ∀ x ∈ N, ∀ f ∈ x.files, f.path.length ≤ 1000000 ∧ f.data.length ≤ 10000000 := fun h0 h1 s1 h2 s2 h3 s3 => by
              have h := next_read hv.2 h0 hZl h1 s1 h2 s2 h3 s3 hpx hfr
              rwa [hZ] at h
            have hrt : ∀ (r' : Hp) (v' : Value), (∃ N : List PartM, N.map PartM.key = nextK (X.map PartM.key) rows fresh ∧ PartsR r' v' N ∧ N.length = X.length + 1 ∧ ∀ x ∈ N, ∀ f ∈ x.files, f.path.length ≤ 1000000 ∧ f.data.length ≤ 10000000) → Tri Tryz.prog r' 6 [v'] [] fun w H => w = .bool true ∧ H = [] := by
              rintro r' v' ⟨N, h1, h2, h3, h4⟩
              have h := mright_any r' v' N h2 (by omega) fun x hx f hf => (h4 x hx f hf).1
              rw [h1, hnx] at h
              exact h
            have hli : ∀ (r' : Hp) (v' : Value), (∃ N : List PartM, N.map PartM.key = nextK (X.map PartM.key) rows fresh ∧ PartsR r' v' N ∧ N.length = X.length + 1 ∧ ∀ x ∈ N, ∀ f ∈ x.files, f.path.length ≤ 1000000 ∧ f.data.length ≤ 10000000) → Tri Tryz.prog r' 8 [v'] [] fun w H => ∃ a c, w = .slice a B.length c ∧ H = [FilC w B] := by
              rintro r' v' ⟨N, h1, h2, h3, h4⟩
              have h := mlive_any r' v' N h2 (by omega) (fun x hx f hf => (h4 x hx f hf).1) fun x hx f hf => by have := (h4 x hx f hf).2; omega
              rw [h1, hlv] at h
              exact h
            have hsf : ∀ (r' g1 g2 : Hp) (u w : Value), FilC u B g1 → sub g1 r' → FilC w B g2 → sub g2 r' → Tri Tryz.prog r' 13 [u, w] [] fun x H => x = .bool true ∧ H = [] := fun r' g1 g2 u w h1 s1 h2 s2 => by
              obtain ⟨Z1, e1, f1⟩ := filC_files h1 s1
              obtain ⟨Z2, e2, f2⟩ := filC_files h2 s2
              have h := sameFiles_any r' u w Z1 Z2 f1 f2
              rw [decide_eq_true (e1.trans e2.symm)] at h
              exact h
            obtain ⟨q, hq⟩ : ∃ q, decide ((diffK K B).length = 0) = q := ⟨_, rfl⟩
            rw [hq] at hno
            have hnt : ∀ (r' g : Hp) (u : Value), sub r r' → sub g r' → FilC u K g → Tri Tryz.prog r' 14 [u, vl] [] fun w H => w = .bool q ∧ H = [] := fun r' g u h1 h2 h3 => by
              obtain ⟨Y, hY, hF⟩ := filC_files h3 h2
              obtain ⟨hb1, hb2⟩ := live_bounds ho hpx (hY.trans hK.symm)
              have h := nothing_any r' u vl Y cs hF (hl.mono h1) (by omega) (by omega) hb1 hcp
              rw [hY, hno] at h
              exact h
            have hcase : q = false ∨ (q = true ∧ 40 < was) ∨ (q = true ∧ fresh.length = 0 ∧ more = 0) := by
              cases q
              · exact .inl rfl
              · have h1 := hsame (List.length_eq_zero_iff.1 (of_decide_eq_true hq))
                rcases h1 with h1 | ⟨h1, h2⟩
                · exact .inr (.inl ⟨rfl, by rw [hwc]; exact h1⟩)
                · refine .inr (.inr ⟨rfl, by rw [h1]; rfl, ?_⟩)
                  have h3 : Z.map (·.nums) = X.map (·.dead) := by
                    rw [hZ, hrows, List.map_map]
                    exact List.map_congr_left fun x hx => h2 x.key (List.mem_map_of_mem hx)
                  rw [hmo, deadN_eq (map_dead h3)]
                  omega
            have hf1 : one? (.slice a4 fresh.length c4) = true := rfl
            have h40 : (fresh.length = 0 ∧ lives ≤ 40) ∨ (0 < fresh.length ∧ lives + 1 ≤ 40) := by
              cases fresh with
              | nil => exact .inl ⟨rfl, by simpa using hcnt2⟩
              | cons f l => exact .inr ⟨by simp, by simpa using hcnt2⟩
            clear hcnt hcnt2 hsame hlc hwc hmo
            rcases hcase with rfl | ⟨rfl, hc1⟩ | ⟨rfl, hc1, hc2⟩ <;> rcases h40 with ⟨hc3, hc4⟩ | ⟨hc3, hc4⟩
            all_goals
              repeat' (first | (exfalso; first | contradiction | omega) | (first | ((with_reducible apply kx_bs1); exact ty_el; exact ty_inf; rfl; rfl; rfl; intro bz; (refine apk ?_)) | ((with_reducible apply kx_bsN); exact ty_el; exact ty_inf; rfl; rfl; rfl; intro bz; (refine apk ?_))) | ((with_reducible refine swo_isApp ?_); (with_reducible apply kx_lend [(bz, .cells [.slice a4 fresh.length c4, .slice none 0 0].toArray 38 (0, 0))]); (exact atks); intro r5 hl5; (with_reducible apply kx_appS (news := [.slice a4 fresh.length c4, .slice none 0 0])); exact ty_el; exact ty_inf; rfl; rfl; rfl; rfl; exact (Sl.lit (n := 1) (Lent.h1 hl5) rfl (by simp [maxLen])); (exact atk); rfl; (unfold maxLen; omega); (omega); intro a' c'; refine apm ?_) | ((with_reducible refine swo_isCall 6 ?_); (with_reducible apply kx_lendC (A := RowC 38 2 (.slice a' (X.length + 1) c') (X.length + 1) ((nextV X Z).flatMap encMp ++ [.slice a4 fresh.length c4, .slice none 0 0]))); (exact atk); intro r6 g6 hr6 hg6 hA6; (with_reducible apply kx_lendC (A := RowsP Z)); (exact atk); intro r7 g7 hr7 hg7 hA7; (with_reducible apply kx_lendC (A := FilC (.slice a4 fresh.length c4) fresh)); (exact atk); intro r8 g8 hr8 hg8 hA8; (refine acl Tryz.func6 ?_; refine acr (hrt r8 _ (hread (hr6.trans (hr7.trans hr8)) hA6 (fun b o e => hr8 b o (hr7 b o (hg6 b o e))) hA7 (fun b o e => hr8 b o (hg7 b o e)) hA8 hg8)) ?_; rintro v' H' ⟨rfl, rfl⟩; all_goals refine apl ?_)) | ((with_reducible refine swo_isCall 8 ?_); (with_reducible apply kx_lendC (A := RowC 38 2 (.slice a' (X.length + 1) c') (X.length + 1) ((nextV X Z).flatMap encMp ++ [.slice a4 fresh.length c4, .slice none 0 0]))); (exact atk); intro r6 g6 hr6 hg6 hA6; (with_reducible apply kx_lendC (A := RowsP Z)); (exact atk); intro r7 g7 hr7 hg7 hA7; (with_reducible apply kx_lendC (A := FilC (.slice a4 fresh.length c4) fresh)); (exact atk); intro r8 g8 hr8 hg8 hA8; (refine acl Tryz.func8 ?_; refine acr (hli r8 _ (hread (hr6.trans (hr7.trans hr8)) hA6 (fun b o e => hr8 b o (hr7 b o (hg6 b o e))) hA7 (fun b o e => hr8 b o (hg7 b o e)) hA8 hg8)) ?_; rintro v' H' ⟨a9, c9, rfl, rfl⟩; all_goals refine apl ?_)) | ((with_reducible refine swo_isCall 13 ?_); (with_reducible apply kx_lendC (A := FilC (.slice a9 B.length c9) B)); (exact atk); intro r6 g6 hr6 hg6 hA6; (with_reducible apply kx_lendC (A := FilC (.slice a2 B.length c2) B)); (exact atk); intro r7 g7 hr7 hg7 hA7; (refine acl Tryz.func13 ?_; refine acr (hsf r7 _ _ _ _ hA6 (fun b o e => hr7 b o (hg6 b o e)) hA7 hg7) ?_; rintro v' H' ⟨rfl, rfl⟩; all_goals refine apl ?_)) | ((with_reducible refine swo_isCall 14 ?_); (with_reducible apply kx_lendC (A := FilC (.slice a1 K.length c1) K)); (exact atk); intro r6 g6 hr6 hg6 hA6; (refine acl Tryz.func14 ?_; refine acr (hnt r6 _ _ hr6 hg6 hA6) ?_; rintro v' H' ⟨rfl, rfl⟩; all_goals refine apl ?_)) | refine aw0 ?_ | (refine ap2 ?_ ?_ <;> try intro h) | refine aw1 ?_ | (refine abx ?_; intro bb) | (refine abz ?_; intro bz) | (refine ahv ?_; intro v' hv') | (refine aac ?_; intro ac cc) | refine aw2 ?_ | (refine ap4 ?_ ?_ <;> try intro h) | apply True.intro)
            all_goals
              ((with_reducible apply fp_ret); exact res_1 rfl rfl)
              exact HR.out _ _ _ [] Takes.all ⟨by first | rfl | (congr 1; simp; done) | (congr 1; simp; omega) | fail, rfl⟩
        · have hA : applyK K (cs.map chK) = (none, 3) := by
            unfold applyK
            rw [← hK, hKo, hK, hb, if_neg hbig]; rfl
          have hpk : planK (X.map PartM.key) (cs.map chK) = (none, 3) := by
            unfold planK
            rw [ho, hb, hK, hA]; rfl
          rw [hpk] at hpl
          rw [hA] at hap
          rw [hK] at hml
          dsimp only at hpl hap
          repeat' (first | (refine acl Tryz.func6 ?_; refine acr (hmr) ?_; rintro v' H' ⟨rfl, rfl⟩; all_goals refine apl ?_) | (refine acl Tryz.func7 ?_; refine acr (hbr) ?_; rintro v' H' ⟨rfl, rfl⟩; all_goals refine apl ?_) | (refine acl Tryz.func8 ?_; refine acr (hml) ?_; rintro v' H' ⟨a1, c1, rfl, rfl⟩; all_goals refine apl ?_) | ((with_reducible refine swo_isCall 9 ?_); (with_reducible apply kx_lendC (A := FilC (.slice a1 K.length c1) K)); (exact atk); intro r' gg hr hgr hgg; (refine acl Tryz.func9 ?_; refine acr (hap r' gg _ hr hgr hgg) ?_; rintro v' H' ⟨rfl, rfl⟩; all_goals refine apl ?_)) | (refine acl Tryz.func10 ?_; refine acr (hpl) ?_; rintro v' H' ⟨rfl, rfl⟩; all_goals refine apl ?_) | (exfalso; first | contradiction | omega) | refine aw0 ?_ | (refine ap2 ?_ ?_ <;> try intro h) | refine aw1 ?_ | (refine abx ?_; intro bb) | (refine abz ?_; intro bz) | (refine ahv ?_; intro v' hv') | (refine aac ?_; intro ac cc) | refine aw2 ?_ | (refine ap4 ?_ ?_ <;> try intro h) | apply True.intro)
          ((with_reducible apply fp_ret); exact res_1 rfl rfl)
          exact HR.out _ _ _ [] Takes.all ⟨rfl, rfl⟩
  · repeat' (first | (exfalso; first | contradiction | omega) | refine aw0 ?_ | (refine ap2 ?_ ?_ <;> try intro h) | refine aw1 ?_ | (refine abx ?_; intro bb) | (refine abz ?_; intro bz) | (refine ahv ?_; intro v' hv') | (refine aac ?_; intro ac cc) | refine aw2 ?_ | (refine ap4 ?_ ?_ <;> try intro h) | apply True.intro)
    ((with_reducible apply fp_ret); exact res_1 rfl rfl)
    exact HR.out _ _ _ [] Takes.all ⟨rfl, rfl⟩
end Go.Proofs.YtmnehdpclnhmbaaGreat
