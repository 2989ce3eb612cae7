
/- merge.Plan: its contract. -/
import Derived.Test.YtmnehdpclnhmbaaNj
namespace Go.Proofs.Ytmnehdpclnhmbaa
open Go.RowKit Go.Maps Sx

structure RowI where
  val : Value
  nums : List Int
deriving Inhabited
abbrev RowsP (Z : List RowI) : Ch := all (Z.map fun z => RowC 3 1 z.val z.nums.length (z.nums.flatMap encJ))
/-- Rows of numbers that are owned. -/
def RowsC (v : Value) (rows : List (List Int)) : Ch := fun h => ∃ Z : List RowI, Z.map (·.nums) = rows ∧ all [RowC 34 1 v Z.length (Z.map (·.val)), RowsP Z] h
theorem rowsP_snoc {Z : List RowI} {v : Value} {l : List Int} (h : Hp) (e : all [RowsP Z, RowC 3 1 v l.length (l.flatMap encJ)] h) : RowsP (Z ++ [⟨v, l⟩]) h := by
  obtain ⟨g1, g2, dd, rfl, h1, g3, g4, dd2, rfl, h3, rfl⟩ := e
  have h4 : all ((Z.map fun z => RowC 3 1 z.val z.nums.length (z.nums.flatMap encJ)) ++ [RowC 3 1 v l.length (l.flatMap encJ)]) (un g1 (un g3 emp)) := all_app.2 ⟨g1, _, dd, rfl, h1, g3, emp, dd2, rfl, h3, rfl⟩
  show all ((Z ++ [(⟨v, l⟩ : RowI)]).map fun z => RowC 3 1 z.val z.nums.length (z.nums.flatMap encJ)) _
  rw [List.map_append]
  exact h4
set_option maxRecDepth 10000 in
set_option maxHeartbeats 8000000 in
theorem mplanE_any (r : Hp) (v vl : Value) (X : List PartM) (cs : List ChV) (hv : PartsR r v X) (hl : Chs r vl cs) (hn : X.length ≤ 1000000) (hm : cs.length ≤ 1000000) (hp : ∀ x ∈ X, ∀ f ∈ x.files, f.path.length ≤ 1000000 ∧ f.data.length ≤ 10000000) (hcp : ∀ c ∈ cs, c.path.length ≤ 1000000 ∧ c.data.length ≤ 10000000) (hno : (partsOk (X.map PartM.key) && batchOk (cs.map chK)) = false) :
    Tri Try.prog r 7 [v, vl] [] fun w H => w = .tuple #[.slice none 0 0, .slice none 0 0, .int .i64 2] ∧ H = [] := by
  refine Tri.free2 fun R HR => ?_
  have hmr := mright_any r v X hv hn fun x hx f hf => (hp x hx f hf).1
  have hbr := bright_any r vl cs hl hm fun c hc => (hcp c hc).1
  cases ho : partsOk (X.map PartM.key)
  · rw [ho] at hmr
    refine fn_of_sw Try.func7 rfl _ rfl ?_; refine aen Try.ntmps7 ?_
    repeat' (first | (refine acl Try.func16 ?_; refine acr (hmr) ?_; rintro v' H' ⟨rfl, rfl⟩; all_goals refine apl ?_) | (exfalso; first | contradiction | omega) | refine aw0 ?_ | (refine ap2 ?_ ?_ <;> try intro h) | refine aw1 ?_ | (refine abx ?_; intro bb) | (refine abz ?_; intro bz) | (refine ahv ?_; intro v' hv') | (refine aac ?_; intro ac cc) | refine aw2 ?_ | (refine ap4 ?_ ?_ <;> try intro h) | apply True.intro)
    ((with_reducible apply fp_ret); exact res_3 rfl rfl rfl rfl)
    exact HR.out _ _ _ [] (by (exact atks)) ⟨rfl, rfl⟩
  · rw [ho] at hmr hno
    rw [Bool.true_and] at hno
    rw [hno] at hbr
    refine fn_of_sw Try.func7 rfl _ rfl ?_; refine aen Try.ntmps7 ?_
    repeat' (first | (refine acl Try.func16 ?_; refine acr (hmr) ?_; rintro v' H' ⟨rfl, rfl⟩; all_goals refine apl ?_) | (refine acl Try.func12 ?_; refine acr (hbr) ?_; rintro v' H' ⟨rfl, rfl⟩; all_goals refine apl ?_) | (exfalso; first | contradiction | omega) | refine aw0 ?_ | (refine ap2 ?_ ?_ <;> try intro h) | refine aw1 ?_ | (refine abx ?_; intro bb) | (refine abz ?_; intro bz) | (refine ahv ?_; intro v' hv') | (refine aac ?_; intro ac cc) | refine aw2 ?_ | (refine ap4 ?_ ?_ <;> try intro h) | apply True.intro)
    ((with_reducible apply fp_ret); exact res_3 rfl rfl rfl rfl)
    exact HR.out _ _ _ [] (by (exact atks)) ⟨rfl, rfl⟩
end Go.Proofs.Ytmnehdpclnhmbaa
