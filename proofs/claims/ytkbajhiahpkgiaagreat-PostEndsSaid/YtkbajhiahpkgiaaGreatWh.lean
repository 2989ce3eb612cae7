
/- Where trigrams stand, in plain words: made of documents the postings are right, and have all places. -/
import Derived.Test.YtkbajhiahpkgiaaGreatFr
import Derived.Test.YtkbajhiahpkgiaaGreatAx
namespace Go.Proofs.YtkbajhiahpkgiaaGreat
open Go.RowKit Sx

theorem tot_sum (ds : List (List UInt8)) : ∀ k, k ≤ ds.length → tot ds k = ((ds.take k).map List.length).sum
  | 0, _ => by simp [tot]
  | k + 1, h => by
    have hk : k < ds.length := by omega
    rw [tot, tot_sum ds k (by omega), List.take_succ_eq_append_getElem hk, List.map_append, List.sum_append, List.getD_eq_getElem?_getD, List.getElem?_eq_getElem hk]
    simp
/-! So many. -/
end Go.Proofs.YtkbajhiahpkgiaaGreat
