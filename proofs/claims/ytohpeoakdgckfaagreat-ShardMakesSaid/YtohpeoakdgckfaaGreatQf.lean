
/- mudlarkref19.Put: its contract. -/
import Derived.Test.YtohpeoakdgckfaaGreatQb
import Derived.Test.YtohpeoakdgckfaaGreatQd
namespace Go.Proofs.YtohpeoakdgckfaaGreat
open Go.RowKit Sx

set_option maxRecDepth 10000 in
set_option maxHeartbeats 2000000 in
theorem rput19_any (r : Hp) (v : Value) (xs : List PostV) (hv : Posts r v xs) (hb : ∀ x ∈ xs, x.pl.length ≤ 10000) (hn : xs.length ≤ 10000) : Tri Tryz.prog r 42 [v] [] fun w H => ∃ a c, w = .tuple #[.slice a (putE (xs.map unP)).1.length c, .int .i64 (putE (xs.map unP)).2] ∧ H = [U8R (.slice a (putE (xs.map unP)).1.length c) (putE (xs.map unP)).1] := by
  refine Tri.free2 fun R HR => ?_
  have hrt := rright19_any r v xs hv
  have hve := hv.1
  cases hok : postsOk [] (xs.map unP)
  · rw [hok] at hrt
    rw [show putE (xs.map unP) = ([], 2) by unfold putE; rw [hok]; rfl] at HR
    refine fn_of_sw Tryz.func42 rfl _ rfl ?_; refine aen Tryz.ntmps42 ?_
    refine sw_put (A := U8R (.slice none 0 0) []) (RowC.nil _ _) ?_
    repeat' (first | (refine acl Tryz.func98 ?_; refine acr (hrt) ?_; rintro v' H' ⟨rfl, rfl⟩; all_goals refine apl ?_) | (exfalso; first | contradiction | omega) | refine aw0 ?_ | (refine ap2 ?_ ?_ <;> try intro h) | refine aw1 ?_ | (refine abx ?_; intro bb) | (refine abz ?_; intro bz) | (refine ahv ?_; intro v' hv') | (refine aac ?_; intro ac cc) | refine aw2 ?_ | (refine ap4 ?_ ?_ <;> try intro h) | apply True.intro)
    ((with_reducible apply fp_ret); exact res_2 rfl rfl rfl)
    exact HR.out _ _ _ [_] (by (exact atks)) ⟨none, 0, rfl, rfl⟩
  · rw [hok] at hrt
    rw [show putE (xs.map unP) = (putB (xs.map unP), 0) by unfold putE; rw [hok]; rfl] at HR
    have hpo : ∀ x ∈ xs, postOk (unP x) = true := fun x hx => postsOk_mem hok _ (List.mem_map_of_mem hx)
    have hpl : ∀ x ∈ xs, (postB (unP x)).length ≤ 200000 := fun x hx => postB_le (hpo x hx) (hb x hx)
    clear hok
    refine fn_of_sw Tryz.func42 rfl _ rfl ?_; refine aen Tryz.ntmps42 ?_
    refine sw_put (A := U8R (.slice none 0 0) []) (RowC.nil _ _) ?_
    repeat' (first | (refine acl Tryz.func98 ?_; refine acr (hrt) ?_; rintro v' H' ⟨rfl, rfl⟩; all_goals refine apl ?_) | (refine acl Tryz.func97 ?_; refine acr (rwnum_any r bb (.slice none 0 0) [] xs.length (by unfold maxNum; omega) (by simp)) ?_; rintro v' H' ⟨w', rfl⟩; all_goals refine apl ?_) | (exfalso; first | contradiction | omega) | refine aw0 ?_ | (refine ap2 ?_ ?_ <;> try intro h) | refine aw1 ?_ | (refine abx ?_; intro bb) | (refine abz ?_; intro bz) | (refine ahv ?_; intro v' hv') | (refine aac ?_; intro ac cc) | refine aw2 ?_ | (refine ap4 ?_ ?_ <;> try intro h) | apply True.intro)
    revert bb; intro bw
    refine sw_loop (fun gm t H' => ∃ (k : Nat) (wv : Value), gm = xs.length + 1 - k ∧ (k ≤ xs.length) ∧ (∃ G, Takes [pt bw (rwr wv false), U8R wv (septs xs.length ++ ((xs.take k).map unP).flatMap fun x => texts (postB x))] H' G) ∧ Sls t 32 [(0, v), (4, .pointer (some ⟨bw, 0, none⟩)), (5, .int .i64 k)]) _ ⟨0, w', rfl, Nat.zero_le _, ⟨_, by simp only [List.take_zero, List.map_nil, List.flatMap_nil, List.append_nil]; (exact atks)⟩, asls⟩ ?_
    rintro gm t H' ⟨k, wv, rfl, hk, ⟨G, hp⟩, hs'⟩
    revert t; refine sls_all ?_; iterate 29 intro uu'
    refine sw_takeG hp ?_; clear hp
    by_cases hlt : k < xs.length
    · have hx := hv.2 _ (getD_mem hlt)
      have hm := getD_mem hlt
      have hch := (postOk_chain (hpo _ hm)).1
      have hbl := hb _ hm
      have hg3 : (xs.getD k default).gram.length = 3 := (postOk_chain (hpo _ hm)).2.1
      have hpst := rposting_any r (xs.getD k default) ⟨-1, 0⟩ hx hch (postOk_chain (hpo _ hm)).2.2 (by omega) (by omega)
      have hpl1 := hpl _ hm
      have htk : xs.take (k + 1) = xs.take k ++ [xs.getD k default] := by
        rw [List.take_succ_eq_append_getElem hlt, List.getD_eq_getElem?_getD, List.getElem?_eq_getElem hlt]; rfl
      have hlen : (septs xs.length ++ ((xs.take k).map unP).flatMap fun x => texts (postB x)).length ≤ 6 + 200006 * k := by
        have h1 := putB_le ((xs.take k).map unP) (fun x hx => by
          obtain ⟨z, hz, rfl⟩ := List.mem_map.1 hx
          exact hpl z (List.mem_of_mem_take hz))
        rw [List.length_map, List.length_take] at h1
        have h2 := septs_len6 (n := xs.length) (by unfold maxNum; omega)
        rw [List.length_append]; omega
      have hnx : (septs xs.length ++ ((xs.take (k + 1)).map unP).flatMap fun x => texts (postB x)) = (septs xs.length ++ ((xs.take k).map unP).flatMap fun x => texts (postB x)) ++ texts (postB (unP (xs.getD k default))) := by
        rw [htk, List.map_append, List.flatMap_append, List.append_assoc]; simp
      generalize (septs xs.length ++ ((xs.take k).map unP).flatMap fun x => texts (postB x)) = W at *
      generalize postB (unP (xs.getD k default)) = B at *
      repeat' (first | (refine acl Tryz.func99 ?_; refine acr (hpst) ?_; rintro v' H' ⟨a, c, rfl, rfl⟩; all_goals refine apl ?_) | ((with_reducible apply kx_lendC (A := U8M (.slice a B.length c) B)); (exact atk); intro r1 g1 hr1 hg1 hA1; (refine acl Tryz.func65 ?_; refine acr (rwtext_any r1 bw wv W _ B (hA1.sl hg1) (by omega) (by omega)) ?_; rintro v' H' ⟨w2, rfl⟩; all_goals refine apl ?_)) | (exfalso; first | contradiction | omega) | refine aw0 ?_ | (refine ap2 ?_ ?_ <;> try intro h) | refine aw1 ?_ | (refine abx ?_; intro bb) | (refine abz ?_; intro bz) | (refine ahv ?_; intro v' hv') | (refine aac ?_; intro ac cc) | refine aw2 ?_ | (refine ap4 ?_ ?_ <;> try intro h) | apply True.intro)
      exact ⟨_, by omega, k + 1, w2, rfl, by omega, ⟨_, by rw [hnx]; (exact atks)⟩, asls⟩
    · obtain rfl : k = xs.length := by omega
      rw [List.take_length]
      have hB : putB (xs.map unP) = septs xs.length ++ (xs.map unP).flatMap fun x => texts (postB x) := by unfold putB; rw [List.length_map]
      rw [hB] at HR
      generalize (septs xs.length ++ (xs.map unP).flatMap fun x => texts (postB x)) = W at *
      refine sw_form (E := 5) (sz := 1) (v := wv) (n := W.length) (xs := u8s W) (by (exact atk)) ?_
      rintro ⟨wa, wc, rfl⟩
      repeat' (first | (exfalso; first | contradiction | omega) | refine aw0 ?_ | (refine ap2 ?_ ?_ <;> try intro h) | refine aw1 ?_ | (refine abx ?_; intro bb) | (refine abz ?_; intro bz) | (refine ahv ?_; intro v' hv') | (refine aac ?_; intro ac cc) | refine aw2 ?_ | (refine ap4 ?_ ?_ <;> try intro h) | apply True.intro)
      ((with_reducible apply fp_ret); exact res_2 rfl rfl rfl)
      exact HR.out _ _ _ [U8R _ _] (by (exact atks)) ⟨_, _, rfl, rfl⟩
end Go.Proofs.YtohpeoakdgckfaaGreat
