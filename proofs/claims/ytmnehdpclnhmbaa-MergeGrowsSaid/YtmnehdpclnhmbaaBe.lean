
/- slices.IndexFunc and ContainsFunc over changes. -/
import Derived.Test.YtmnehdpclnhmbaaBa
namespace Go.Proofs.Ytmnehdpclnhmbaa
open Go.RowKit Sx

set_option maxHeartbeats 400000 in
theorem indexChange_any (r : Hp) (v : Value) (xs : List ChV) (fv : Value) (gf : FuncId) (cap : List Value) (H : List Ch) (q : ChV → Bool) (hv : Els r 3 encCh v xs) (hfv : fv = .func (.func gf) #[] cap.toArray) (hg : GoesTo Try.prog gf)
    (hp : ∀ k (hk : k < xs.length), Tri Try.prog r gf (.agg (encCh xs[k]).toArray :: cap) H fun w H' => w = .bool (q xs[k]) ∧ H' = H) :
    Tri Try.prog r 71 [v, fv] H fun w H' => w = .int .i64 (idx (xs.findIdx? q)) ∧ H' = H := by
  obtain ⟨a, c, rfl⟩ := hv.form
  have hn := hv.2.2.1
  unfold maxLen at hn
  obtain ⟨n, hln⟩ : ∃ n, xs.length = n := ⟨_, rfl⟩
  rw [hln] at hn hv ⊢
  have HLN := hid hln
  clear hln
  refine fn_of_sw Try.func71 rfl _ rfl ?_; refine aen Try.ntmps71 ?_
  repeat' (first | refine ax0m ?_ | (refine abb ?_; intro b) | refine ax1m ?_ | (refine aac ?_; intro ac cc) | refine ax2m ?_ | (refine ap3 ?_ ?_ <;> try intro h) | apply True.intro)
  refine sw_loop (fun g t H' => ∃ k : Nat, g = n + 1 - k ∧ k ≤ n ∧ (xs.take k).findIdx? q = none ∧ H' = H ∧ (t.length = 19 ∧ t[0]? = some (.slice a n c) ∧ t[1]? = some (fv) ∧ t[6]? = some (.slice a n c) ∧ t[7]? = some (.int .i64 n) ∧ t[8]? = some (.int .i64 k))) (n + 1) ⟨0, rfl, Nat.zero_le _, by simp, rfl, rfl, rfl, rfl, rfl, rfl, rfl⟩ ?_
  rintro g t H' ⟨k, rfl, hk, hall, rfl, hlen, e0, e1, e6, e7, e8⟩
  revert e0 e1 e6 e7 e8; revert t; refine all_len (n := 19) ?_; intro u0 u1 u2 u3 u4 u5 u6 u7 u8 u9 u10 u11 u12 u13 u14 u15 u16 u17 u18 e0 e1 e6 e7 e8; cases e0; cases e1; cases e6; cases e7; cases e8
  have HA := hid hall
  clear hall
  by_cases hlt : k < n
  · have hkx : k < xs.length := by rw [HLN.out]; exact hlt
    obtain ⟨b, off, rfl, hc⟩ := hv.at hkx HLN.out
    obtain ⟨x, hx⟩ : ∃ x, xs[k] = x := ⟨_, rfl⟩
    have hq := hp k hkx
    rw [hx] at hq hc
    have hc' := hc r H' (fun _ _ h => h)
    obtain ⟨y, hy⟩ : ∃ y, q x = y := ⟨_, rfl⟩
    rw [hy] at hq
    have HC := hid hq
    have HX := hid hx
    have HY := hid hy
    clear hc hp hq hx hy
    subst hfv
    unfold encCh at hc' HC
    cases y
    · repeat' (first | refine ax0m ?_ | (refine abb ?_; intro b) | (with_reducible apply kx_call (f := gf) (cap := cap)); exact hg; rfl; rfl; exact HC.out; exact Takes.all; rintro v' H1 ⟨rfl, rfl⟩; rw [List.append_nil]; (refine apk ?_) | refine ax1m ?_ | (refine aac ?_; intro ac cc) | refine ax2m ?_ | (refine ap3 ?_ ?_ <;> try intro h) | apply True.intro)
      refine ⟨_, by omega, k + 1, rfl, by omega, ?_, rfl, rfl, rfl, rfl, rfl, rfl, rfl⟩
      rw [find_app hkx HA.out, HX.out, HY.out]; rfl
    · repeat' (first | refine ax0m ?_ | (refine abb ?_; intro b) | (with_reducible apply kx_call (f := gf) (cap := cap)); exact hg; rfl; rfl; exact HC.out; exact Takes.all; rintro v' H1 ⟨rfl, rfl⟩; rw [List.append_nil]; (refine apk ?_) | refine ax1m ?_ | (refine aac ?_; intro ac cc) | refine ax2m ?_ | (refine ap3 ?_ ?_ <;> try intro h) | apply True.intro)
      ((with_reducible apply fp_ret); exact res_1 rfl rfl)
      exact ⟨by rw [find_fst hkx HA.out (by rw [HX.out]; exact HY.out)]; rfl, rfl⟩
  · rw [List.take_of_length_le (by rw [HLN.out]; omega)] at HA
    repeat' (first | refine ax0m ?_ | (refine abb ?_; intro b) | refine ax1m ?_ | (refine aac ?_; intro ac cc) | refine ax2m ?_ | (refine ap3 ?_ ?_ <;> try intro h) | apply True.intro)
    ((with_reducible apply fp_ret); exact res_1 rfl rfl)
    exact ⟨by rw [HA.out]; rfl, rfl⟩
set_option maxHeartbeats 400000 in
theorem contChange_any (r : Hp) (v : Value) (xs : List ChV) (gf : FuncId) (cap : List Value) (H : List Ch) (q : ChV → Bool) (hv : Els r 3 encCh v xs) (hg : GoesTo Try.prog gf)
    (hp : ∀ k (hk : k < xs.length), Tri Try.prog r gf (.agg (encCh xs[k]).toArray :: cap) H fun w H' => w = .bool (q xs[k]) ∧ H' = H) :
    Tri Try.prog r 54 [v, .func (.func gf) #[] cap.toArray] H fun w H' => w = .bool (xs.any q) ∧ H' = H := by
  have hi := indexChange_any r v xs _ gf cap H q hv rfl hg hp
  obtain ⟨a, c, rfl⟩ := hv.form
  have e : xs.any q = (xs.findIdx? q).isSome := by rw [List.findIdx?_isSome]
  rw [e]
  obtain ⟨o, ho⟩ : ∃ o, xs.findIdx? q = o := ⟨_, rfl⟩
  rw [ho] at hi ⊢
  have HC := hid hi
  clear hp hv hi e ho
  cases o
  all_goals
    refine fn_of_sw Try.func54 rfl _ rfl ?_; refine aen Try.ntmps54 ?_
    repeat' (first | refine ax0m ?_ | (refine abb ?_; intro b) | (with_reducible apply kx_call (f := 71) (cap := [])); exact goesOf Try.func71 (by kernel_rfl) rfl; rfl; rfl; exact HC.out; exact Takes.all; rintro v' H1 ⟨rfl, rfl⟩; all_goals (rw [List.append_nil]; unfold idx; (refine apk ?_)) | refine ax1m ?_ | (refine aac ?_; intro ac cc) | refine ax2m ?_ | (refine ap3 ?_ ?_ <;> try intro h) | apply True.intro)
    ((with_reducible apply fp_ret); exact res_1 rfl rfl)
    first
    | exact ⟨rfl, rfl⟩
    | exact ⟨by congr 1; simp, rfl⟩
theorem ball_any (r : Hp) (v : Value) (xs : List ChV) (hv : Chs r v xs) (hl : ∀ x ∈ xs, x.path.length ≤ 1000000) : Tri Try.prog r 36 [v] [] fun w H => w = .bool (!(xs.any fun x => bigK (chK x))) ∧ H = [] := by
  refine Tri.free2 fun R HR => ?_
  have hc := contChange_any r v xs 55 [] [] (fun x => bigK (chK x)) hv.1 (goesOf Try.func55 (by kernel_rfl) rfl) (fun k hk => ball1_any r _ (hv.2 _ (List.getElem_mem hk)) (hl _ (List.getElem_mem hk)))
  refine fn_of_sw Try.func36 rfl _ rfl ?_; refine aen Try.ntmps36 ?_
  repeat' (first | (refine acl Try.func54 ?_; refine acr (hc) ?_; rintro v' H' ⟨rfl, rfl⟩; all_goals refine apl ?_) | refine aw0 ?_ | (refine ap2 ?_ ?_ <;> try intro h) | refine aw1 ?_ | (refine abx ?_; intro bb) | (refine abz ?_; intro bz) | (refine ahv ?_; intro v' hv') | (refine aac ?_; intro ac cc) | refine aw2 ?_ | (refine ap4 ?_ ?_ <;> try intro h) | apply True.intro)
  ((with_reducible apply fp_ret); exact res_1 rfl rfl)
  exact HR.out _ _ _ [] Takes.all ⟨rfl, rfl⟩
/-- No text stands before the one ahead of it. -/
def sortB : List Pa → Bool
  | [] => true
  | [_] => true
  | a :: b :: l => !decide (b < a) && sortB (b :: l)
theorem sortB_iff : ∀ {xs : List ChV}, sortB (xs.map (·.path)) = true ↔ ∀ i, i + 1 < xs.length → ¬ (xs.getD (i + 1) default).path < (xs.getD i default).path
  | [] => by simp [sortB]
  | [_] => by simp [sortB]
  | x :: y :: xs => by
    have ih := sortB_iff (xs := y :: xs)
    rw [show sortB ((x :: y :: xs).map (·.path)) = (!decide (y.path < x.path) && sortB ((y :: xs).map (·.path))) from rfl, Bool.and_eq_true, Bool.not_eq_true', decide_eq_false_iff_not, ih]
    constructor
    · rintro ⟨h1, h2⟩ i hi
      cases i with
      | zero => exact h1
      | succ i => exact h2 i (by simpa using hi)
    · intro h
      exact ⟨h 0 (by simp), fun i hi => h (i + 1) (by simpa using hi)⟩
theorem cmpP_neg {a b : Pa} : cmpP a b < 0 ↔ a < b := by
  unfold cmpP
  split
  · rename_i h; simp [h]
  · rename_i h; split <;> simp [h]
theorem cmpP_neg_not {a b : Pa} : 0 ≤ cmpP a b ↔ ¬ a < b := by
  rw [← cmpP_neg]; omega
set_option maxRecDepth 10000 in
set_option maxHeartbeats 2000000 in
theorem sorted_any (r : Hp) (v : Value) (xs : List ChV) (hv : Els r 3 encCh v xs) : Tri Try.prog r 34 [v, .func (.func 35) #[] #[]] [] fun w H => w = .bool (sortB (xs.map (·.path))) ∧ H = [] := by
  refine Tri.free2 fun R HR => ?_
  have hn := hv.2.2.1
  unfold maxLen at hn
  refine fn_of_sw Try.func34 rfl _ rfl ?_; refine aen Try.ntmps34 ?_
  repeat' (first | refine aw0m ?_ | (refine ap2 ?_ ?_ <;> try intro h) | refine aw1m ?_ | (refine abx ?_; intro bb) | (refine abz ?_; intro bz) | (refine ahv ?_; intro v' hv') | (refine aac ?_; intro ac cc) | refine aw2 ?_ | (refine ap4 ?_ ?_ <;> try intro h) | apply True.intro)
  refine sw_loop (fun gm t H' => ∃ m : Nat, gm = m + 1 ∧ (m ≤ xs.length) ∧ (∀ i, m ≤ i + 1 → i + 1 < xs.length → ¬ (xs.getD (i + 1) default).path < (xs.getD i default).path) ∧ (∃ G, Takes [] H' G) ∧ Sls t 25 [(0, v), (1, .func (.func 35) #[] #[]), (5, .int .i64 ((m : Int) - 1))]) _ ⟨xs.length, rfl, Nat.le_refl _, fun i h1 h2 => absurd h2 (by omega), ⟨[], atks⟩, asls⟩ ?_
  rintro gm t H' ⟨m, rfl, hm, hs, ⟨G, hp⟩, hs'⟩
  revert t; refine sls_all ?_; iterate 22 intro uu'
  refine sw_takeG hp ?_; clear hp
  by_cases hlt : 2 ≤ m
  · obtain ⟨k, rfl⟩ : ∃ k, m = k + 2 := ⟨m - 2, by omega⟩
    rw [show (((k + 2 : Nat) : Int) - 1) = ((k + 1 : Nat) : Int) by omega]
    repeat' (first | (first | ((with_reducible apply sw_draw (id := 4) 12 [(0, true), (1, true), (2, true), (3, true), (4, true), (5, true), (6, true), (7, true), (8, true), (9, true), (10, false), (11, true)] [] []); kernel_rfl; (exact atks); kernel_rfl; intro r' hl')) | (refine acl Try.func35 ?_; refine acr (order_any _ _ _) ?_; rintro v' H' ⟨rfl, rfl⟩; all_goals refine apl ?_) | (exfalso; first | contradiction | omega) | refine aw0 ?_ | (refine ap2 ?_ ?_ <;> try intro h) | refine aw1 ?_ | (refine abx ?_; intro bb) | (refine abz ?_; intro bz) | (refine ahv ?_; intro v' hv') | (refine aac ?_; intro ac cc) | refine aw2 ?_ | (refine ap4 ?_ ?_ <;> try intro h) | apply True.intro)
    · rw [cmpP_neg, show (((k + 1 : Nat) : Int) - 1).toNat = k by omega] at h
      ((with_reducible apply fp_ret); exact res_1 rfl rfl)
      exact HR.out _ _ _ [] (by (exact atks)) ⟨by rw [show sortB (xs.map (·.path)) = false by rw [← Bool.not_eq_true]; exact fun e => sortB_iff.1 e k (by omega) h], rfl⟩
    · rw [cmpP_neg_not, show (((k + 1 : Nat) : Int) - 1).toNat = k by omega] at h
      exact ⟨_, by omega, k + 1, rfl, by omega, fun i h1 h2 => (by
        by_cases c : i = k
        · rw [c]; exact h
        · exact hs i (by omega) h2), ⟨_, atks⟩, asls⟩
  · repeat' (first | (exfalso; first | contradiction | omega) | refine aw0 ?_ | (refine ap2 ?_ ?_ <;> try intro h) | refine aw1 ?_ | (refine abx ?_; intro bb) | (refine abz ?_; intro bz) | (refine ahv ?_; intro v' hv') | (refine aac ?_; intro ac cc) | refine aw2 ?_ | (refine ap4 ?_ ?_ <;> try intro h) | apply True.intro)
    ((with_reducible apply fp_ret); exact res_1 rfl rfl)
    exact HR.out _ _ _ [] (by (exact atks)) ⟨by rw [sortB_iff.2 fun i h => hs i (by omega) h], rfl⟩
end Go.Proofs.Ytmnehdpclnhmbaa
