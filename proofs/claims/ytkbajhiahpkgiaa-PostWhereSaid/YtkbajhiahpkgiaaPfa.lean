/- post.fits: its contract; postings as arguments. -/
import Derived.Test.YtkbajhiahpkgiaaPl
import Derived.Test.YtkbajhiahpkgiaaTy
import Derived.Test.YtkbajhiahpkgiaaGo
import Derived.Test.YtkbajhiahpkgiaaWd
namespace Go.Proofs.Ytkbajhiahpkgiaa
open Go.RowKit Sx

structure PostV where
  gram : List UInt8
  val : Value
  pl : List PlaceV
  deriving Inhabited
def encPo (x : PostV) : List Value := [.string (bs x.gram), x.val]
def unP (x : PostV) : PostP := (x.gram, x.pl)
abbrev Posts (r : Hp) (v : Value) (xs : List PostV) : Prop := Els r 2 encPo v xs ∧ ∀ x ∈ xs, Els r 2 encPl x.val x.pl
theorem Posts.mono {r r' : Hp} {v : Value} {xs : List PostV} (h : Posts r v xs) (hr : sub r r') : Posts r' v xs := ⟨h.1.mono hr, fun x hx => (h.2 x hx).mono hr⟩
set_option maxHeartbeats 16000000 in
theorem fits_post_any (r : Hp) (a p : PlaceV) : Tri Try.prog r 49 [.agg (encPl a).toArray, .agg (encPl p).toArray] [] fun w H => w = .bool (fitsP a p) ∧ H = [] := by
  obtain ⟨ad, ap⟩ := a
  obtain ⟨pd, pp⟩ := p
  show Tri Try.prog r 49 [.agg [.int .i64 ad, .int .i64 ap].toArray, .agg [.int .i64 pd, .int .i64 pp].toArray] [] _
  refine Tri.free2 fun R HR => ?_
  have hf : fitsP ⟨ad, ap⟩ ⟨pd, pp⟩ = (decide (0 ≤ pd) && decide (pd < 4000) && decide (0 ≤ pp) && decide (pp ≤ 1048576) && (decide (ad < pd) || decide (pd = ad) && decide (ap < pp))) := rfl
  rw [hf] at HR
  clear hf
  by_cases h1 : 0 ≤ pd
  · by_cases h2 : pd < 4000
    · by_cases h3 : 0 ≤ pp
      · by_cases h4 : pp ≤ 1048576
        · by_cases h5 : ad < pd
          · rw [decide_eq_true h1, decide_eq_true h2, decide_eq_true h3, decide_eq_true h4, decide_eq_true h5] at HR
            refine fn_of_sw Try.func49 rfl _ rfl ?_; simp only [Try.ntmps49, List.length_cons, List.length_nil, Nat.reduceAdd, Nat.reduceSub, List.replicate_succ, List.replicate_zero, List.nil_append, List.cons_append]
            repeat' (first | (refine aw0m ?_) | (refine ap2 ?_ ?_ <;> first | exact True.intro | intro h) | (refine aw1m ?_) | (refine abx ?_; intro bb) | (refine abz ?_; intro bz) | (refine ahv ?_; intro v' hv') | (refine aac ?_; intro ac cc) | (refine aw2 ?_) | (refine ap4 ?_ ?_ <;> first | exact True.intro | intro h) | (with_reducible refine tr_two ?_ ?_))
            ((with_reducible apply fp_ret); exact res_1 rfl rfl)
            exact HR.out _ _ _ [] Takes.all ⟨rfl, rfl⟩
          · by_cases h6 : pd = ad
            · rw [decide_eq_true h1, decide_eq_true h2, decide_eq_true h3, decide_eq_true h4, decide_eq_false h5, decide_eq_true h6] at HR
              refine fn_of_sw Try.func49 rfl _ rfl ?_; simp only [Try.ntmps49, List.length_cons, List.length_nil, Nat.reduceAdd, Nat.reduceSub, List.replicate_succ, List.replicate_zero, List.nil_append, List.cons_append]
              repeat' (first | (refine aw0m ?_) | (refine ap2 ?_ ?_ <;> first | exact True.intro | intro h) | (refine aw1m ?_) | (refine abx ?_; intro bb) | (refine abz ?_; intro bz) | (refine ahv ?_; intro v' hv') | (refine aac ?_; intro ac cc) | (refine aw2 ?_) | (refine ap4 ?_ ?_ <;> first | exact True.intro | intro h) | (with_reducible refine tr_two ?_ ?_))
              ((with_reducible apply fp_ret); exact res_1 rfl rfl)
              exact HR.out _ _ _ [] Takes.all ⟨rfl, rfl⟩
            · rw [decide_eq_true h1, decide_eq_true h2, decide_eq_true h3, decide_eq_true h4, decide_eq_false h5, decide_eq_false h6] at HR
              refine fn_of_sw Try.func49 rfl _ rfl ?_; simp only [Try.ntmps49, List.length_cons, List.length_nil, Nat.reduceAdd, Nat.reduceSub, List.replicate_succ, List.replicate_zero, List.nil_append, List.cons_append]
              repeat' (first | (refine aw0m ?_) | (refine ap2 ?_ ?_ <;> first | exact True.intro | intro h) | (refine aw1m ?_) | (refine abx ?_; intro bb) | (refine abz ?_; intro bz) | (refine ahv ?_; intro v' hv') | (refine aac ?_; intro ac cc) | (refine aw2 ?_) | (refine ap4 ?_ ?_ <;> first | exact True.intro | intro h) | (with_reducible refine tr_two ?_ ?_))
              ((with_reducible apply fp_ret); exact res_1 rfl rfl)
              exact HR.out _ _ _ [] Takes.all ⟨rfl, rfl⟩
        · rw [decide_eq_true h1, decide_eq_true h2, decide_eq_true h3, decide_eq_false h4] at HR
          refine fn_of_sw Try.func49 rfl _ rfl ?_; simp only [Try.ntmps49, List.length_cons, List.length_nil, Nat.reduceAdd, Nat.reduceSub, List.replicate_succ, List.replicate_zero, List.nil_append, List.cons_append]
          repeat' (first | (refine aw0m ?_) | (refine ap2 ?_ ?_ <;> first | exact True.intro | intro h) | (refine aw1m ?_) | (refine abx ?_; intro bb) | (refine abz ?_; intro bz) | (refine ahv ?_; intro v' hv') | (refine aac ?_; intro ac cc) | (refine aw2 ?_) | (refine ap4 ?_ ?_ <;> first | exact True.intro | intro h) | (with_reducible refine tr_two ?_ ?_))
          ((with_reducible apply fp_ret); exact res_1 rfl rfl)
          exact HR.out _ _ _ [] Takes.all ⟨rfl, rfl⟩
      · rw [decide_eq_true h1, decide_eq_true h2, decide_eq_false h3] at HR
        refine fn_of_sw Try.func49 rfl _ rfl ?_; simp only [Try.ntmps49, List.length_cons, List.length_nil, Nat.reduceAdd, Nat.reduceSub, List.replicate_succ, List.replicate_zero, List.nil_append, List.cons_append]
        repeat' (first | (refine aw0m ?_) | (refine ap2 ?_ ?_ <;> first | exact True.intro | intro h) | (refine aw1m ?_) | (refine abx ?_; intro bb) | (refine abz ?_; intro bz) | (refine ahv ?_; intro v' hv') | (refine aac ?_; intro ac cc) | (refine aw2 ?_) | (refine ap4 ?_ ?_ <;> first | exact True.intro | intro h) | (with_reducible refine tr_two ?_ ?_))
        ((with_reducible apply fp_ret); exact res_1 rfl rfl)
        exact HR.out _ _ _ [] Takes.all ⟨rfl, rfl⟩
    · rw [decide_eq_true h1, decide_eq_false h2] at HR
      refine fn_of_sw Try.func49 rfl _ rfl ?_; simp only [Try.ntmps49, List.length_cons, List.length_nil, Nat.reduceAdd, Nat.reduceSub, List.replicate_succ, List.replicate_zero, List.nil_append, List.cons_append]
      repeat' (first | (refine aw0m ?_) | (refine ap2 ?_ ?_ <;> first | exact True.intro | intro h) | (refine aw1m ?_) | (refine abx ?_; intro bb) | (refine abz ?_; intro bz) | (refine ahv ?_; intro v' hv') | (refine aac ?_; intro ac cc) | (refine aw2 ?_) | (refine ap4 ?_ ?_ <;> first | exact True.intro | intro h) | (with_reducible refine tr_two ?_ ?_))
      ((with_reducible apply fp_ret); exact res_1 rfl rfl)
      exact HR.out _ _ _ [] Takes.all ⟨rfl, rfl⟩
  · rw [decide_eq_false h1] at HR
    refine fn_of_sw Try.func49 rfl _ rfl ?_; simp only [Try.ntmps49, List.length_cons, List.length_nil, Nat.reduceAdd, Nat.reduceSub, List.replicate_succ, List.replicate_zero, List.nil_append, List.cons_append]
    repeat' (first | (refine aw0m ?_) | (refine ap2 ?_ ?_ <;> first | exact True.intro | intro h) | (refine aw1m ?_) | (refine abx ?_; intro bb) | (refine abz ?_; intro bz) | (refine ahv ?_; intro v' hv') | (refine aac ?_; intro ac cc) | (refine aw2 ?_) | (refine ap4 ?_ ?_ <;> first | exact True.intro | intro h) | (with_reducible refine tr_two ?_ ?_))
    ((with_reducible apply fp_ret); exact res_1 rfl rfl)
    exact HR.out _ _ _ [] Takes.all ⟨rfl, rfl⟩
end Go.Proofs.Ytkbajhiahpkgiaa
