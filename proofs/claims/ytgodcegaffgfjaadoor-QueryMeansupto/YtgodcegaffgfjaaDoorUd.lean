
/- Texts and queries compared (mudlarkkit), query.lone: their contracts. -/
import Derived.Test.YtgodcegaffgfjaaDoorUc
namespace Go.Proofs.YtgodcegaffgfjaaDoor
open Go.RowKit Sx

set_option maxRecDepth 10000 in
set_option maxHeartbeats 2000000 in
theorem lone_any (r : Hp) (q : QuV) (hq : QuR r q) : Tri Tryd.prog r 16 [.agg (encQ q).toArray] [] fun w H => w = .bool (loneQ q.key) ∧ H = [] := by
  obtain ⟨k, gv, gs, sv, ss⟩ := q
  obtain ⟨h1, h2, h3⟩ := quR_iff.1 hq
  have h1 : Els r 1 encTx gv gs := h1
  have h2 : Els r 3 encQ sv ss := h2
  rw [key_mk]
  refine Tri.free2 fun R HR => ?_
  have hq : loneQ (.mk k gs (ss.map QuV.key)) = (decide (k = 3) && decide (gs.length = 1) && decide (ss.length = 0)) := by
    show (decide (k = 3) && decide (gs.length = 1) && decide ((ss.map QuV.key).length = 0)) = _
    congr 1
    rw [decide_eq_decide, List.length_map]
  rw [hq] at HR
  show Tri _ _ _ [.agg [.int .i64 k, gv, sv].toArray] _ _
  by_cases h3 : k = 3 <;> by_cases h4 : gs.length = 1 <;> by_cases h5 : ss.length = 0
  all_goals
    refine fn_of_sw Tryd.func16 rfl _ rfl ?_; refine aen Tryd.ntmps16 ?_
    repeat' (first | (exfalso; first | contradiction | omega) | refine aw0 ?_ | (refine ap2 ?_ ?_ <;> try intro h) | refine aw1 ?_ | (refine abx ?_; intro bb) | (refine abz ?_; intro bz) | (refine ahv ?_; intro v' hv') | (refine aac ?_; intro ac cc) | refine aw2 ?_ | (refine ap4 ?_ ?_ <;> try intro h) | apply True.intro)
    ((with_reducible apply fp_ret); exact res_1 rfl rfl)
    exact HR.out _ _ _ [] Takes.all ⟨by simp [h3, h4, h5], rfl⟩
end Go.Proofs.YtgodcegaffgfjaaDoor
