/- wire.place, wire.Reader: their small contracts. -/
import Derived.Test.YtkbajhiahpkgiaaTy
import Derived.Test.YtkbajhiahpkgiaaProg
import Derived.Test.YtkbajhiahpkgiaaSx
namespace Go.Proofs.Ytkbajhiahpkgiaa
open Go.RowKit Sx

attribute [local go_sem] Oper.semAt_some

/-- A Reader (or its place) in block g. -/
abbrev rdr (v : Value) (bad : Bool) : Obj := .cells [v, .bool bad].toArray 105 (0, 0)

set_option maxHeartbeats 400000 in
theorem must_any (r : Hp) (g : Nat) (v : Value) (bad is : Bool) :
    Tri Try.prog r 64 [.pointer (some ⟨g, 0, none⟩), .bool is] [pt g (rdr v bad)] fun _ H => H = [pt g (rdr v (bad || !is))] := by
  cases bad
  all_goals
    refine fn_of_sw Try.func64 rfl _ rfl ?_; simp only [Try.ntmps64, List.length_cons, List.length_nil, Nat.reduceAdd, Nat.reduceSub, List.replicate_succ, List.replicate_zero, List.nil_append, List.cons_append]
    repeat' (first | (refine ax0m ?_) | (refine abb ?_; intro b) | (with_reducible refine tr_two ?_ ?_) | (refine ax1m ?_) | (refine aac ?_; intro ac cc) | (refine ax2m ?_) | (refine ap3 ?_ ?_ <;> first | exact True.intro | intro h))
    ((with_reducible apply fp_end); exact res_0 rfl)
    simp
end Go.Proofs.Ytkbajhiahpkgiaa
