
/- slices.IndexFunc, ContainsFunc over files at a function that turns what it owns; (*batch.merger).behind: its contract. -/
import Derived.Test.YtmnehdpclnhmbaaBg
namespace Go.Proofs.Ytmnehdpclnhmbaa
open Go.RowKit Sx

set_option maxRecDepth 10000 in
set_option maxHeartbeats 2000000 in
theorem indexS_any (r : Hp) (v : Value) (xs : List FileV) (gf : FuncId) (cap : List Value) (A : Ch) (S X : Nat → Ch) (hv : Els r 2 encF v xs) (hg : GoesTo Try.prog gf)
    (hp : ∀ k, k < xs.length → Tri Try.prog r gf (.agg (encF (xs.getD k default)).toArray :: cap) [A, S k] fun w H' => (w = .bool false ∧ H' = [A, S (k + 1)]) ∨ (w = .bool true ∧ H' = [A, X (k + 1)])) :
    Tri Try.prog r 51 [v, .func (.func gf) #[] cap.toArray] [A, S 0] fun w H' => (w = .int .i64 (-1) ∧ H' = [A, S xs.length]) ∨ ∃ k, k < xs.length ∧ w = .int .i64 k ∧ H' = [A, X (k + 1)] := by
  refine Tri.free2 fun R HR => ?_
  have hn := hv.2.2.1
  unfold maxLen at hn
  refine fn_of_sw Try.func51 rfl _ rfl ?_; refine aen Try.ntmps51 ?_
  repeat' (first | refine aw0m ?_ | (refine ap2 ?_ ?_ <;> try intro h) | refine aw1m ?_ | (refine abx ?_; intro bb) | (refine abz ?_; intro bz) | (refine ahv ?_; intro v' hv') | (refine aac ?_; intro ac cc) | refine aw2 ?_ | (refine ap4 ?_ ?_ <;> try intro h) | apply True.intro)
  refine sw_loop (fun gm t H' => ∃ k : Nat, gm = xs.length + 1 - k ∧ (k ≤ xs.length) ∧ (∃ G, Takes [A, S k] H' G) ∧ Sls t 19 [(0, v), (1, .func (.func gf) #[] cap.toArray), (7, .int .i64 xs.length), (8, .int .i64 k)]) _ ⟨0, rfl, Nat.zero_le _, ⟨_, atks⟩, asls⟩ ?_
  rintro gm t H' ⟨k, rfl, hk, ⟨G, hp⟩, hs'⟩
  revert t; refine sls_all ?_; iterate 15 intro uu'
  refine sw_takeG hp ?_; clear hp
  by_cases hlt : k < xs.length
  · have hq := hp k hlt
    repeat' (first | ((with_reducible apply kx_call (f := gf) (cap := cap)); exact hg; rfl; rfl; exact hq; (exact atks); rintro v' H1 (⟨rfl, rfl⟩ | ⟨rfl, rfl⟩); all_goals refine apl ?_) | (exfalso; first | contradiction | omega) | refine aw0 ?_ | (refine ap2 ?_ ?_ <;> try intro h) | refine aw1 ?_ | (refine abx ?_; intro bb) | (refine abz ?_; intro bz) | (refine ahv ?_; intro v' hv') | (refine aac ?_; intro ac cc) | refine aw2 ?_ | (refine ap4 ?_ ?_ <;> try intro h) | apply True.intro)
    · exact ⟨_, by omega, k + 1, rfl, by omega, ⟨_, atks⟩, asls⟩
    · ((with_reducible apply fp_ret); exact res_1 rfl rfl)
      exact HR.out _ _ _ [A, X (k + 1)] (by (exact atks)) (.inr ⟨k, hlt, rfl, rfl⟩)
  · obtain rfl : k = xs.length := by omega
    repeat' (first | (exfalso; first | contradiction | omega) | refine aw0 ?_ | (refine ap2 ?_ ?_ <;> try intro h) | refine aw1 ?_ | (refine abx ?_; intro bb) | (refine abz ?_; intro bz) | (refine ahv ?_; intro v' hv') | (refine aac ?_; intro ac cc) | refine aw2 ?_ | (refine ap4 ?_ ?_ <;> try intro h) | apply True.intro)
    ((with_reducible apply fp_ret); exact res_1 rfl rfl)
    exact HR.out _ _ _ [A, S xs.length] (by (exact atks)) (.inl ⟨rfl, rfl⟩)
set_option maxHeartbeats 1000000 in
theorem containS_any (r : Hp) (v : Value) (xs : List FileV) (gf : FuncId) (cap : List Value) (A : Ch) (S X : Nat → Ch) (hv : Els r 2 encF v xs) (hg : GoesTo Try.prog gf)
    (hp : ∀ k, k < xs.length → Tri Try.prog r gf (.agg (encF (xs.getD k default)).toArray :: cap) [A, S k] fun w H' => (w = .bool false ∧ H' = [A, S (k + 1)]) ∨ (w = .bool true ∧ H' = [A, X (k + 1)])) :
    Tri Try.prog r 27 [v, .func (.func gf) #[] cap.toArray] [A, S 0] fun w H' => (w = .bool false ∧ H' = [A, S xs.length]) ∨ ∃ k, k < xs.length ∧ w = .bool true ∧ H' = [A, X (k + 1)] := by
  refine Tri.free2 fun R HR => ?_
  have hi := indexS_any r v xs gf cap A S X hv hg hp
  refine fn_of_sw Try.func27 rfl _ rfl ?_; refine aen Try.ntmps27 ?_
  repeat' (first | (refine acl Try.func51 ?_; refine acr (hi) ?_; rintro v' H' (⟨rfl, rfl⟩ | ⟨k, hk, rfl, rfl⟩); all_goals refine apl ?_) | refine aw0 ?_ | (refine ap2 ?_ ?_ <;> try intro h) | refine aw1 ?_ | (refine abx ?_; intro bb) | (refine abz ?_; intro bz) | (refine ahv ?_; intro v' hv') | (refine aac ?_; intro ac cc) | refine aw2 ?_ | (refine ap4 ?_ ?_ <;> try intro h) | apply True.intro)
  · ((with_reducible apply fp_ret); exact res_1 rfl rfl)
    exact HR.out _ _ _ [A, S xs.length] (by (exact atks)) (.inl ⟨rfl, rfl⟩)
  · ((with_reducible apply fp_ret); exact res_1 rfl rfl)
    exact HR.out _ _ _ [A, X (k + 1)] (by (exact atks)) (.inr ⟨k, hk, by rw [decide_eq_true (by omega)], rfl⟩)
abbrev ybox (b k : Nat) : Ch := pt b (.cells [.func (.yield k) #[] #[]].toArray 74 (0, 0))
/-- One file is told. -/
theorem told1_any (r : Hp) (b k : Nat) (x : FileV) (J J1 Jx : Ch) (hy : Yld Try.prog r k [.agg (encF x).toArray] J J1 Jx) : Tri Try.prog r 39 [.agg (encF x).toArray, .pointer (some ⟨b, 0, none⟩)] [ybox b k, J] fun w H' => (w = .bool false ∧ H' = [ybox b k, J1]) ∨ (w = .bool true ∧ H' = [ybox b k, Jx]) := by
  refine Tri.free2 fun R HR => ?_
  obtain ⟨p, v, d⟩ := x
  have hy' : Yld Try.prog r k [.agg [.string (bs p), v].toArray] J J1 Jx := hy
  show Tri _ _ _ [.agg [.string (bs p), v].toArray, _] _ _
  refine fn_of_sw Try.func39 rfl _ rfl ?_; refine aen Try.ntmps39 ?_
  repeat' (first | ((with_reducible apply kx_box); rfl; (exact qcl); intro b2; (refine apk ?_)) | ((with_reducible apply kx_yield); rfl; exact (hy'); rfl; (exact atk); all_goals (refine apk ?_)) | refine aw0 ?_ | (refine ap2 ?_ ?_ <;> try intro h) | refine aw1 ?_ | (refine abx ?_; intro bb) | (refine abz ?_; intro bz) | (refine ahv ?_; intro v' hv') | (refine aac ?_; intro ac cc) | refine aw2 ?_ | (refine ap4 ?_ ?_ <;> try intro h) | apply True.intro)
  · ((with_reducible apply fp_ret); exact res_1 rfl rfl)
    exact HR.out _ _ _ [ybox b k, J1] (by (exact atks)) (.inl ⟨rfl, rfl⟩)
  · ((with_reducible apply fp_ret); exact res_1 rfl rfl)
    exact HR.out _ _ _ [ybox b k, Jx] (by (exact atks)) (.inr ⟨rfl, rfl⟩)
/-- Files are told, one by one. -/
theorem told_any (r : Hp) (b k : Nat) (v : Value) (ys : List FileV) (J Jx : Nat → Ch) (hv : Els r 2 encF v ys) (hy : ∀ q, q < ys.length → Yld Try.prog r k [.agg (encF (ys.getD q default)).toArray] (J q) (J (q + 1)) (Jx (q + 1))) :
    Tri Try.prog r 38 [v, .pointer (some ⟨b, 0, none⟩)] [ybox b k, J 0] fun w H' => (w = .bool true ∧ H' = [ybox b k, J ys.length]) ∨ ∃ q, q < ys.length ∧ w = .bool false ∧ H' = [ybox b k, Jx (q + 1)] := by
  refine Tri.free2 fun R HR => ?_
  have hc := containS_any r v ys 39 [.pointer (some ⟨b, 0, none⟩)] (ybox b k) J Jx hv (goesOf Try.func39 (by kernel_rfl) rfl) fun q hq => told1_any r b k _ _ _ _ (hy q hq)
  refine fn_of_sw Try.func38 rfl _ rfl ?_; refine aen Try.ntmps38 ?_
  repeat' (first | (refine acl Try.func27 ?_; refine acr (hc) ?_; rintro v' H' (⟨rfl, rfl⟩ | ⟨q, hq, rfl, rfl⟩); all_goals refine apl ?_) | refine aw0 ?_ | (refine ap2 ?_ ?_ <;> try intro h) | refine aw1 ?_ | (refine abx ?_; intro bb) | (refine abz ?_; intro bz) | (refine ahv ?_; intro v' hv') | (refine aac ?_; intro ac cc) | refine aw2 ?_ | (refine ap4 ?_ ?_ <;> try intro h) | apply True.intro)
  · ((with_reducible apply fp_ret); exact res_1 rfl rfl)
    exact HR.out _ _ _ [ybox b k, J ys.length] (by (exact atks)) (.inl ⟨rfl, rfl⟩)
  · ((with_reducible apply fp_ret); exact res_1 rfl rfl)
    exact HR.out _ _ _ [ybox b k, Jx (q + 1)] (by (exact atks)) (.inr ⟨q, hq, rfl, rfl⟩)
/-! What is told. -/
def putF (c : ChV) : FileV := ⟨c.path, c.val, c.data⟩
def behindV : List FileV → List ChV → List FileV
  | fs, [] => fs
  | fs, c :: cs => fs.filter (fun f => decide (f.path < c.path)) ++ ((if c.take then [] else [putF c]) ++ behindV (fs.filter fun f => decide (c.path < f.path)) cs)
theorem behindV_key : ∀ (l : List ChV) (fs : List FileV), (behindV fs l).map FileV.key = behindK (fs.map FileV.key) (l.map chK)
  | [], _ => rfl
  | c :: cs, fs => by
    have h1 : (fs.filter fun f => decide (f.path < c.path)).map FileV.key = (fs.map FileV.key).filter fun f => decide (f.1 < (chK c).1) := by rw [List.filter_map]; rfl
    have h2 : (fs.filter fun f => decide (c.path < f.path)).map FileV.key = (fs.map FileV.key).filter fun f => decide ((chK c).1 < f.1) := by rw [List.filter_map]; rfl
    unfold behindV
    rw [List.map_append, List.map_append, behindV_key cs, List.map_cons, behindK, h1, h2]
    congr 2
    show (if c.take then [] else [putF c]).map FileV.key = if c.take then [] else [((chK c).1, (chK c).2.2)]
    cases c.take <;> rfl
theorem atK_take : ∀ {fs : List FileV} {p : Pa} {k : Nat}, atK fs p k → fs.take k = fs.filter fun f => decide (f.path < p)
  | [], _, k, _ => by simp
  | f :: fs, p, 0, h => by
    rw [List.take_zero]
    symm
    rw [List.filter_eq_nil_iff]
    intro x hx
    obtain ⟨q, hq, rfl⟩ := List.getElem_of_mem hx
    have := h.2.2 q (Nat.zero_le _) hq
    rw [List.getD_eq_getElem?_getD, List.getElem?_eq_getElem hq] at this
    simpa using this
  | f :: fs, p, k + 1, h => by
    have h0 : f.path < p := h.2.1 0 (by omega)
    have ih := atK_take (fs := fs) (p := p) (k := k) ⟨by have := h.1; simp at this; omega, fun q hq => h.2.1 (q + 1) (by omega), fun q hq hl => h.2.2 (q + 1) (by omega) (by simpa using hl)⟩
    rw [List.take_succ_cons, ih, List.filter_cons, if_pos (by simpa using h0)]
theorem drop1 {fs : List FileV} {k : Nat} (h : k < fs.length) : fs.drop k = fs.getD k default :: fs.drop (k + 1) := by
  rw [List.drop_eq_getElem_cons h, List.getD_eq_getElem?_getD, List.getElem?_eq_getElem h]
  rfl
theorem atK_drop {fs : List FileV} {p : Pa} {k : Nat} (hr : RisK (fs.map FileV.key)) (h : atK fs p k) : (if k < fs.length ∧ (fs.getD k default).path = p then fs.drop (k + 1) else fs.drop k) = fs.filter fun f => decide (p < f.path) := by
  have hsplit := List.take_append_drop k fs
  have hr2 : RisK ((fs.drop k).map FileV.key) := by rw [List.map_drop]; exact List.Pairwise.sublist (List.drop_sublist k _) hr
  have ht : (fs.take k).filter (fun f => decide (p < f.path)) = [] := by
    rw [atK_take h, List.filter_eq_nil_iff]
    intro x hx
    have := (List.mem_filter.1 hx).2
    simp only [decide_eq_true_eq] at this ⊢
    exact fun h2 => pa_irr _ (pa_tr this h2)
  have hf : fs.filter (fun f => decide (p < f.path)) = (fs.drop k).filter fun f => decide (p < f.path) := by
    conv => lhs; rw [← hsplit, List.filter_append, ht, List.nil_append]
  rw [hf]
  have hge : ∀ x ∈ fs.drop k, ¬ x.path < p := fun x hx => by
    obtain ⟨q, hq, rfl⟩ := List.getElem_of_mem hx
    rw [List.length_drop] at hq
    have := h.2.2 (k + q) (by omega) (by omega)
    rw [List.getElem_drop]
    rw [List.getD_eq_getElem?_getD, List.getElem?_eq_getElem (show k + q < fs.length by omega)] at this
    exact this
  by_cases c : k < fs.length ∧ (fs.getD k default).path = p
  · rw [if_pos c]
    have hd := drop1 c.1
    rw [hd] at hr2 hge ⊢
    rw [List.map_cons] at hr2
    obtain ⟨h1, _⟩ := List.pairwise_cons.1 hr2
    rw [List.filter_cons, if_neg (by rw [c.2]; simp)]
    symm
    rw [List.filter_eq_self]
    intro x hx
    have := h1 x.key (List.mem_map_of_mem hx)
    rw [← c.2]
    simpa using this
  · rw [if_neg c]
    symm
    rw [List.filter_eq_self]
    intro x hx
    have h3 := hge x hx
    refine decide_eq_true (pa_tri h3 fun e => ?_)
    by_cases hk : k < fs.length
    · have hd := drop1 hk
      rw [hd] at hr2 hx
      rw [List.map_cons] at hr2
      obtain ⟨h1, _⟩ := List.pairwise_cons.1 hr2
      rcases List.mem_cons.1 hx with rfl | hx
      · exact c ⟨hk, e⟩
      · have h5 : (fs.getD k default).path < x.path := h1 x.key (List.mem_map_of_mem hx)
        rw [e] at h5
        exact h.2.2 k (Nat.le_refl _) hk h5
    · rw [List.drop_eq_nil_of_le (by omega)] at hx
      cases hx
end Go.Proofs.Ytmnehdpclnhmbaa
