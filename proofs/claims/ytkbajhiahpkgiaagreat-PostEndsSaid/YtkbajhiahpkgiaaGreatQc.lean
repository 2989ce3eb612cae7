
/- mudlarkref19.behind, Right: their contracts. -/
import Derived.Test.YtkbajhiahpkgiaaGreatPf
import Derived.Test.YtkbajhiahpkgiaaGreatFr
namespace Go.Proofs.YtkbajhiahpkgiaaGreat
open Go.RowKit Sx

def behP (a b : PlaceV) : Bool := decide (b.doc < a.doc) || decide (a.doc = b.doc) && decide (b.pos < a.pos)
theorem behind_any (r : Hp) (a b : PlaceV) : Tri Tryz.prog r 66 [.agg (encPl a).toArray, .agg (encPl b).toArray] [] fun w H => w = .bool (behP a b) ∧ H = [] := by
  obtain ⟨ad, ap⟩ := a
  obtain ⟨bd, bp⟩ := b
  show Tri Tryz.prog r 66 [.agg [.int .i64 ad, .int .i64 ap].toArray, .agg [.int .i64 bd, .int .i64 bp].toArray] [] _
  refine Tri.free2 fun R HR => ?_
  refine fn_of_sw Tryz.func66 rfl _ rfl ?_; refine aen Tryz.ntmps66 ?_
  by_cases h1 : bd < ad
  · repeat' (first | (exfalso; first | contradiction | omega) | refine aw0 ?_ | (refine ap2 ?_ ?_ <;> try intro h) | refine aw1 ?_ | (refine abx ?_; intro bb) | (refine abz ?_; intro bz) | (refine ahv ?_; intro v' hv') | (refine aac ?_; intro ac cc) | refine aw2 ?_ | (refine ap4 ?_ ?_ <;> try intro h) | apply True.intro)
    all_goals (((with_reducible apply fp_ret); exact res_1 rfl rfl); exact HR.out _ _ _ [] Takes.all ⟨by congr 1; simp [behP, h1], rfl⟩)
  · by_cases h2 : ad = bd
    · repeat' (first | (exfalso; first | contradiction | omega) | refine aw0 ?_ | (refine ap2 ?_ ?_ <;> try intro h) | refine aw1 ?_ | (refine abx ?_; intro bb) | (refine abz ?_; intro bz) | (refine ahv ?_; intro v' hv') | (refine aac ?_; intro ac cc) | refine aw2 ?_ | (refine ap4 ?_ ?_ <;> try intro h) | apply True.intro)
      all_goals (((with_reducible apply fp_ret); exact res_1 rfl rfl); exact HR.out _ _ _ [] Takes.all ⟨by congr 1; simp [behP, h2], rfl⟩)
    · repeat' (first | (exfalso; first | contradiction | omega) | refine aw0 ?_ | (refine ap2 ?_ ?_ <;> try intro h) | refine aw1 ?_ | (refine abx ?_; intro bb) | (refine abz ?_; intro bz) | (refine ahv ?_; intro v' hv') | (refine aac ?_; intro ac cc) | refine aw2 ?_ | (refine ap4 ?_ ?_ <;> try intro h) | apply True.intro)
      all_goals (((with_reducible apply fp_ret); exact res_1 rfl rfl); exact HR.out _ _ _ [] Takes.all ⟨by congr 1; simp [behP, h1, h2], rfl⟩)
/-- Is a place right, ahead of it another one (or none)? -/
def placeOk (o : Option PlaceV) (p : PlaceV) : Bool := decide (0 ≤ p.doc) && decide (p.doc < 4000) && decide (0 ≤ p.pos) && decide (p.pos ≤ 1048576) && (match o with | none => true | some a => behP p a)
theorem fits_some (a p : PlaceV) : fitsP a p = placeOk (some a) p := by
  unfold fitsP placeOk behP
  simp only [eq_comm]
theorem fits_first (p : PlaceV) : fitsP ⟨-1, 0⟩ p = placeOk none p := by
  unfold fitsP placeOk
  by_cases h : 0 ≤ p.doc
  · have h1 : (decide ((-1 : Int) < p.doc)) = true := decide_eq_true (by omega)
    simp [h1]
  · simp [h]
end Go.Proofs.YtkbajhiahpkgiaaGreat
