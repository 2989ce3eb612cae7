
/- slices.BinarySearchFunc over files; (*batch.row).until: their contracts. -/
import Derived.Test.YtmnehdpclnhmbaaBf
namespace Go.Proofs.Ytmnehdpclnhmbaa
open Go.RowKit Sx

theorem until1_any (r : Hp) (x : FileV) (p : Pa) : Tri Try.prog r 58 [.agg (encF x).toArray, .string (bs p)] [] fun w H => w = .int .i64 (cmpP x.path p) ∧ H = [] := by
  refine Tri.free2 fun R HR => ?_
  obtain ⟨q, v, d⟩ := x
  show Tri _ _ _ [.agg [.string (bs q), v].toArray, _] _ _
  have hc := cmpP_any r q p
  refine fn_of_sw Try.func58 rfl _ rfl ?_; refine aen Try.ntmps58 ?_
  repeat' (first | ((with_reducible apply kx_box); rfl; (exact qcl); intro b; (refine apk ?_)) | (refine acl Try.func25 ?_; refine acr (hc) ?_; rintro v' H' ⟨rfl, rfl⟩; all_goals refine apl ?_) | refine aw0 ?_ | (refine ap2 ?_ ?_ <;> try intro h) | refine aw1 ?_ | (refine abx ?_; intro bb) | (refine abz ?_; intro bz) | (refine ahv ?_; intro v' hv') | (refine aac ?_; intro ac cc) | refine aw2 ?_ | (refine ap4 ?_ ?_ <;> try intro h) | apply True.intro)
  ((with_reducible apply fp_ret); exact res_1 rfl rfl)
  exact HR.out _ _ _ [] Takes.all ⟨rfl, rfl⟩
/-- Where files that rise would have a path. -/
def atK (fs : List FileV) (p : Pa) (k : Nat) : Prop := k ≤ fs.length ∧ (∀ q, q < k → (fs.getD q default).path < p) ∧ ∀ q, k ≤ q → q < fs.length → ¬ (fs.getD q default).path < p
theorem cmpP_zero {a b : Pa} : cmpP a b = 0 ↔ a = b := by
  unfold cmpP
  by_cases h : a < b
  · rw [if_pos h]; exact ⟨fun e => by omega, fun e => absurd h (e ▸ pa_irr _)⟩
  · rw [if_neg h]
    by_cases e : a = b
    · rw [if_pos e]; simp [e]
    · rw [if_neg e]; simp [e]
set_option maxRecDepth 10000 in
set_option maxHeartbeats 4000000 in
theorem bsearch_any (r : Hp) (v : Value) (fs : List FileV) (p : Pa) (hv : Els r 2 encF v fs) (hr : RisK (fs.map FileV.key)) (hn : fs.length ≤ 1000000) : Tri Try.prog r 57 [v, .string (bs p), .func (.func 58) #[] #[]] [] fun w H => ∃ k, atK fs p k ∧ w = .tuple #[.int .i64 k, .bool (decide (k < fs.length ∧ (fs.getD k default).path = p))] ∧ H = [] := by
  refine Tri.free2 fun R HR => ?_
  have hrise : ∀ i j, i < j → j < fs.length → (fs.getD i default).path < (fs.getD j default).path := fun i j hij hj => by
    have h := List.pairwise_iff_getElem.1 hr i j (by rw [List.length_map]; omega) (by rw [List.length_map]; exact hj) hij
    rw [List.getElem_map, List.getElem_map] at h
    rw [List.getD_eq_getElem?_getD, List.getD_eq_getElem?_getD, List.getElem?_eq_getElem (show i < fs.length by omega), List.getElem?_eq_getElem hj]
    exact h
  refine fn_of_sw Try.func57 rfl _ rfl ?_; refine aen Try.ntmps57 ?_
  repeat' (first | refine aw0m ?_ | (refine ap2 ?_ ?_ <;> try intro h) | refine aw1m ?_ | (refine abx ?_; intro bb) | (refine abz ?_; intro bz) | (refine ahv ?_; intro v' hv') | (refine aac ?_; intro ac cc) | refine aw2 ?_ | (refine ap4 ?_ ?_ <;> try intro h) | apply True.intro)
  refine sw_loop (fun gm t H' => ∃ (i j : Nat), gm = j + 1 - i ∧ (i ≤ j ∧ j ≤ fs.length) ∧ (∀ q, q < i → (fs.getD q default).path < p) ∧ (∀ q, j ≤ q → q < fs.length → ¬ (fs.getD q default).path < p) ∧ (∃ G, Takes [] H' G) ∧ Sls t 49 [(0, v), (1, .string (bs p)), (2, .func (.func 58) #[] #[]), (8, .int .i64 fs.length), (9, .int .i64 i), (10, .int .i64 j)]) _ ⟨0, fs.length, rfl, ⟨Nat.zero_le _, Nat.le_refl _⟩, fun q h => absurd h (by omega), fun q h h' => absurd h' (by omega), ⟨[], atks⟩, asls⟩ ?_
  rintro gm t H' ⟨i, j, rfl, hij, h1, h2, ⟨G, hp⟩, hs'⟩
  revert t; refine sls_all ?_; iterate 43 intro uu'
  refine sw_takeG hp ?_; clear hp
  by_cases hlt : i < j
  · have hw : IntKind.i64.wrap (((i : Int) + j) / 2 ^ Int.toNat 1) = (((i + j) / 2 : Nat) : Int) := by
      show IntKind.i64.wrap (((i : Int) + j) / 2 ^ 1) = _
      simp [IntKind.wrap, IntKind.bits, IntKind.signed]
      omega
    obtain ⟨m, hm⟩ : ∃ m, (i + j) / 2 = m := ⟨_, rfl⟩
    rw [hm] at hw
    have hm1 : i ≤ m ∧ m < j := by omega
    repeat' (first | (rw [hw]) | (refine acl Try.func58 ?_; refine acr (until1_any _ _ _) ?_; rintro v' H' ⟨rfl, rfl⟩; all_goals refine apl ?_) | (exfalso; first | contradiction | omega) | refine aw0 ?_ | (refine ap2 ?_ ?_ <;> try intro h) | refine aw1 ?_ | (refine abx ?_; intro bb) | (refine abz ?_; intro bz) | (refine ahv ?_; intro v' hv') | (refine aac ?_; intro ac cc) | refine aw2 ?_ | (refine ap4 ?_ ?_ <;> try intro h) | apply True.intro)
    · rw [cmpP_neg] at h
      exact ⟨_, by omega, m + 1, j, rfl, by omega, fun q hq => (by
        by_cases e : q = m
        · rw [e]; exact h
        · exact pa_tr (hrise q m (by omega) (by omega)) h), h2, ⟨_, atks⟩, asls⟩
    · rw [cmpP_neg_not] at h
      exact ⟨_, by omega, i, m, rfl, by omega, h1, fun q hq hl => (by
        by_cases e : q = m
        · rw [e]; exact h
        · exact fun hc => h (pa_tr (hrise m q (by omega) hl) hc)), ⟨_, atks⟩, asls⟩
  · obtain rfl : i = j := by omega
    have hA : atK fs p i := ⟨hij.2, h1, h2⟩
    repeat' (first | (refine acl Try.func58 ?_; refine acr (until1_any _ _ _) ?_; rintro v' H' ⟨rfl, rfl⟩; all_goals refine apl ?_) | (exfalso; first | contradiction | omega) | refine aw0 ?_ | (refine ap2 ?_ ?_ <;> try intro h) | refine aw1 ?_ | (refine abx ?_; intro bb) | (refine abz ?_; intro bz) | (refine ahv ?_; intro v' hv') | (refine aac ?_; intro ac cc) | refine aw2 ?_ | (refine ap4 ?_ ?_ <;> try intro h) | apply True.intro)
    · ((with_reducible apply fp_ret); exact res_2 rfl rfl rfl)
      exact HR.out _ _ _ [] Takes.all ⟨i, hA, by rw [show decide (i < fs.length ∧ (fs.getD i default).path = p) = decide (cmpP (fs.getD i default).path p = 0) from decide_eq_decide.2 (by rw [cmpP_zero]; exact ⟨fun h => h.2, fun h2 => ⟨by omega, h2⟩⟩)], rfl⟩
    · ((with_reducible apply fp_ret); exact res_2 rfl rfl rfl)
      exact HR.out _ _ _ [] Takes.all ⟨i, hA, by rw [decide_eq_false (fun c => by omega)], rfl⟩
set_option maxRecDepth 10000 in
set_option maxHeartbeats 4000000 in
theorem until_any (r : Hp) (bm : Nat) (T : TypeId) (v : Value) (fs : List FileV) (p : Pa) (hv : Els r 2 encF v fs) (hr : RisK (fs.map FileV.key)) (hn : fs.length ≤ 1000000) : Tri Try.prog r 40 [.pointer (some ⟨bm, 0, none⟩), .string (bs p)] [pt bm (.cells [v].toArray T (0, 0))] fun w H => ∃ k, atK fs p k ∧ w = .tuple #[cutV v 0 k 2, .bool (decide (k < fs.length ∧ (fs.getD k default).path = p))] ∧ H = [pt bm (.cells [cutV v k fs.length 2].toArray T (0, 0))] := by
  refine Tri.free2 fun R HR => ?_
  have hb := bsearch_any r v fs p hv hr hn
  have hv1 := hv.one
  refine fn_of_sw Try.func40 rfl _ rfl ?_; refine aen Try.ntmps40 ?_
  repeat' (first | (refine acl Try.func57 ?_; refine acr (hb) ?_; rintro v' H' ⟨k, hk, rfl, rfl⟩; all_goals refine apl ?_) | refine aw0 ?_ | (refine ap2 ?_ ?_ <;> try intro h) | refine aw1 ?_ | (refine abx ?_; intro bb) | (refine abz ?_; intro bz) | (refine ahv ?_; intro v' hv') | (refine aac ?_; intro ac cc) | refine aw2 ?_ | (refine ap4 ?_ ?_ <;> try intro h) | apply True.intro)
  have hkl := hk.1
  obtain ⟨q, hq⟩ : ∃ q, decide (k < fs.length ∧ (fs.getD k default).path = p) = q := ⟨_, rfl⟩
  rw [hq]
  repeat' (first | ((with_reducible apply sw_draw (id := 2) 12 [(0, true), (1, true), (2, true), (3, true), (4, true), (5, true), (6, true), (7, true), (8, true), (9, true), (10, true), (11, true)] [(12, false), (13, false)] [(bm, .cells [v].toArray T (0, 0))]); kernel_rfl; (exact atks); kernel_rfl; intro r' hl') | ((with_reducible apply pi_pur); rfl; (exact qwt); (with_reducible apply pu_sl0); exact ty_el; exact ty_size; rfl; (exact qasl); (exact qbd); (omega); (refine apk ?_)) | refine aw0 ?_ | (refine ap2 ?_ ?_ <;> try intro h) | refine aw1 ?_ | (refine abx ?_; intro bb) | (refine abz ?_; intro bz) | (refine ahv ?_; intro v' hv') | (refine aac ?_; intro ac cc) | refine aw2 ?_ | (refine ap4 ?_ ?_ <;> try intro h) | apply True.intro)
  simp only [Int.toNat_natCast, Int.toNat_zero]
  have hc2 := hv.cut (i := k) (j := fs.length) hkl (Nat.le_refl _)
  repeat' (first | ((with_reducible apply kx_store); exact ty_size; rfl; rfl; (exact qsw); (exact qon); (exact qss); (refine apk ?_)) | refine aw0 ?_ | (refine ap2 ?_ ?_ <;> try intro h) | refine aw1 ?_ | (refine abx ?_; intro bb) | (refine abz ?_; intro bz) | (refine ahv ?_; intro v' hv') | (refine aac ?_; intro ac cc) | refine aw2 ?_ | (refine ap4 ?_ ?_ <;> try intro h) | apply True.intro)
  ((with_reducible apply fp_ret); exact res_2 rfl rfl rfl)
  exact HR.out _ _ _ [pt bm _] (by (exact atks)) ⟨k, hk, by rw [hq], rfl⟩
end Go.Proofs.Ytmnehdpclnhmbaa
