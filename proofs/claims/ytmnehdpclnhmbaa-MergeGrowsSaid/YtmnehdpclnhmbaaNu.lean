
/- mudlarklaw27.MergeLives: for every input it returns true. -/
import Derived.Test.YtmnehdpclnhmbaaNt
namespace Go.Proofs.Ytmnehdpclnhmbaa
open Go.RowKit Go.Maps Sx

def nextV (X : List PartM) (Z : List RowI) : List PartM := List.zipWith (fun x z => ⟨x.fv, z.val, x.files, z.nums⟩) X Z
theorem nextV_len {X : List PartM} {Z : List RowI} (h : Z.length = X.length) : (nextV X Z).length = X.length := by unfold nextV; rw [List.length_zipWith]; omega
theorem nextV_get {X : List PartM} {Z : List RowI} (h : Z.length = X.length) {k : Nat} (hk : k < X.length) : (nextV X Z).getD k default = ⟨(X.getD k default).fv, (Z.getD k default).val, (X.getD k default).files, (Z.getD k default).nums⟩ := by
  simp only [List.getD_eq_getElem?_getD]
  rw [List.getElem?_eq_getElem (by rw [nextV_len h]; exact hk), List.getElem?_eq_getElem hk, List.getElem?_eq_getElem (show k < Z.length by omega)]
  simp [nextV]
theorem nextV_key : ∀ {X : List PartM} {Z : List RowI}, (nextV X Z).map PartM.key = ((X.map PartM.key).zip (Z.map (·.nums))).map fun x => ⟨x.1.files, x.2⟩
  | [], _ => rfl
  | _ :: _, [] => rfl
  | x :: X, z :: Z => by
    show _ :: (nextV X Z).map PartM.key = _
    rw [nextV_key]; rfl
theorem planK_some {ps : List PartK} {l : List ChK} (ho : partsOk ps = true) (hb : batchOk l = true) (hbig : (behindK (liveK ps) l).length ≤ 4000) : ∃ rows fresh, planK ps l = (some (rows, fresh), 0) := by
  unfold planK applyK
  rw [ho, hb, (live_ok ho).2.2]
  simp only [Bool.and_self, if_true, if_pos hbig]
  split
  · exact ⟨_, _, rfl⟩
  · exact ⟨_, _, rfl⟩
theorem rowsC_open {v : Value} {rows : List (List Int)} (h : Hp) (e : RowsC v rows h) : ∃ Z : List RowI, Z.map (·.nums) = rows ∧ all [RowC 34 1 v Z.length (Z.map (·.val)), RowsP Z] h := e
end Go.Proofs.Ytmnehdpclnhmbaa
