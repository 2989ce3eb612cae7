
/- batch.Nothing: its contract. -/
import Derived.Test.YtmnehdpclnhmbaaBl
namespace Go.Proofs.Ytmnehdpclnhmbaa
open Go.RowKit Sx

theorem applyK_none {fs : List KeyM} {l : List ChK} {e : Nat} (h : applyK fs l = (none, e)) : e = 2 ∨ e = 3 := by
  unfold applyK at h
  split at h
  · split at h
    · cases h
    · simp only [Prod.mk.injEq, true_and] at h; exact .inr h.symm
  · simp only [Prod.mk.injEq, true_and] at h; exact .inl h.symm
theorem pathOk_len {p : Pa} (h : pathOk p = true) : p.length ≤ 200 := by
  unfold pathOk at h
  simp only [Bool.and_eq_true, decide_eq_true_eq] at h
  exact h.1.2
end Go.Proofs.Ytmnehdpclnhmbaa
