
/- Keys of files, the order of texts. No program. -/
import Derived.Test.YtmnehdpclnhmbaaDa
namespace Go.Proofs.Ytmnehdpclnhmbaa
open Go.RowKit Go.Maps Go.Sort Sx

theorem less_not (p last : List UInt8) : (!(Op.bytesLess p last || p == last)) = Op.bytesLess last p := by
  rw [bytesLess_eq, bytesLess_eq, Bool.eq_iff_iff]
  simp only [Bool.not_eq_true', Bool.or_eq_false_iff, decide_eq_false_iff_not, beq_eq_false_iff_ne, decide_eq_true_eq]
  constructor
  · rintro ⟨h1, h2⟩
    exact Std.lt_of_le_of_ne (List.not_lt.1 h1) (fun e => h2 e.symm)
  · intro h
    refine ⟨fun h2 => List.lt_asymm h h2, fun e => ?_⟩
    subst e; exact List.lt_irrefl _ h

theorem less_iff (a b : List UInt8) : Op.bytesLess a b = true ↔ a < b := by rw [bytesLess_eq, decide_eq_true_eq]
theorem less_tri {a b : List UInt8} (h : ¬ a < b) (k : ¬ a = b) : b < a := by
  rcases List.le_iff_lt_or_eq.1 (List.not_lt.1 h) with h | h
  · exact h
  · exact absurd h.symm k
def filesOkK (ks : List (List UInt8 × List UInt8)) : Bool := decide (ks.length ≤ 4000) && !(ks.any fun k => decide (1048576 < k.2.length)) && ordOk [] (ks.map Prod.fst)
theorem filesOk_key (fs : List FileV) : filesOk fs = filesOkK (fs.map FileV.key) := by
  unfold filesOk filesOkK
  rw [List.length_map, List.any_map, List.map_map]
  rfl
end Go.Proofs.Ytmnehdpclnhmbaa
