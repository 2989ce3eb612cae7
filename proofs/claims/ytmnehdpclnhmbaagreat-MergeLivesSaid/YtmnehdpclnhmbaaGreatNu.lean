
/- mudlarklaw27.MergeLives: for every input it returns true. -/
import Derived.Test.YtmnehdpclnhmbaaGreatNt
namespace Go.Proofs.YtmnehdpclnhmbaaGreat
open Go.RowKit Go.Maps Sx

def nextV (X : List PartM) (Z : List RowI) : List PartM := List.zipWith (fun x z => ⟨x.fv, z.val, x.files, z.nums⟩) X Z
theorem nextV_len {X : List PartM} {Z : List RowI} (h : Z.length = X.length) : (nextV X Z).length = X.length := by unfold nextV; rw [List.length_zipWith]; omega
theorem nextV_get {X : List PartM} {Z : List RowI} (h : Z.length = X.length) {k : Nat} (hk : k < X.length) : (nextV X Z).getD k default = ⟨(X.getD k default).fv, (Z.getD k default).val, (X.getD k default).files, (Z.getD k default).nums⟩ := by
  simp only [List.getD_eq_getElem?_getD]
  rw [List.getElem?_eq_getElem (by rw [nextV_len h]; exact hk), List.getElem?_eq_getElem hk, List.getElem?_eq_getElem (show k < Z.length by omega)]
  simp [nextV]
theorem nextV_key : ∀ {X : List PartM} {Z : List RowI}, (nextV X Z).map PartM.key = ((X.map PartM.key).zip (Z.map (·.nums))).map fun x => ⟨x.1.files, x.2⟩
  | [], _ => rfl
  | _ :: _, [] => rfl
  | x :: X, z :: Z => by
    show _ :: (nextV X Z).map PartM.key = _
    rw [nextV_key]; rfl
theorem nextV_mem {X : List PartM} {Z : List RowI} {y : PartM} (h : y ∈ nextV X Z) : ∃ x ∈ X, ∃ z ∈ Z, y = ⟨x.fv, z.val, x.files, z.nums⟩ := by
  unfold nextV at h
  rw [List.mem_iff_getElem] at h
  obtain ⟨i, hi, e⟩ := h
  rw [List.length_zipWith] at hi
  rw [List.getElem_zipWith] at e
  exact ⟨_, List.getElem_mem (by omega), _, List.getElem_mem (by omega), e.symm⟩
def deadN : List PartM → Nat
  | [] => 0
  | x :: l => x.dead.length + deadN l
theorem deadN_app : ∀ l m : List PartM, deadN (l ++ m) = deadN l + deadN m
  | [], m => by simp [deadN]
  | x :: l, m => by simp only [List.cons_append, deadN, deadN_app l m]; omega
theorem deadN_eq : ∀ {l m : List PartM}, l.map (·.dead) = m.map (·.dead) → deadN l = deadN m
  | [], [], _ => rfl
  | [], _ :: _, h => by cases h
  | _ :: _, [], h => by cases h
  | x :: l, y :: m, h => by
    rw [List.map_cons, List.map_cons, List.cons.injEq] at h
    simp only [deadN]
    rw [h.1, deadN_eq h.2]
theorem planK_some {ps : List PartK} {l : List ChK} (ho : partsOk ps = true) (hb : batchOk l = true) (hbig : (behindK (liveK ps) l).length ≤ 4000) : ∃ rows fresh, planK ps l = (some (rows, fresh), 0) := by
  unfold planK applyK
  rw [ho, hb, (live_ok ho).2.2]
  simp only [Bool.and_self, if_true, if_pos hbig]
  split
  · exact ⟨_, _, rfl⟩
  · exact ⟨_, _, rfl⟩
theorem one_len {p : PartK} (h : oneOk p = true) : p.dead.length ≤ p.files.length := by
  rw [← row_nil h]
  exact row_len p []
/-- The parts behind a plan, read. -/
theorem next_read {r r' g1 g2 g3 : Hp} {X : List PartM} {Z : List RowI} {v' v4 : Value} {fresh : List KeyM} (hX : ∀ x ∈ X, PartR r x) (hr : sub r r') (hl : Z.length = X.length) (h1 : RowC 38 2 v' (X.length + 1) ((nextV X Z).flatMap encMp ++ [v4, .slice none 0 0]) g1) (s1 : sub g1 r') (h2 : RowsP Z g2) (s2 : sub g2 r') (h3 : FilC v4 fresh g3) (s3 : sub g3 r') (hp : ∀ x ∈ X, ∀ f ∈ x.files, f.path.length ≤ 1000000 ∧ f.data.length ≤ 10000000) (hf : filesOkK fresh = true) :
    ∃ N : List PartM, N.map PartM.key = nextK (X.map PartM.key) (Z.map (·.nums)) fresh ∧ PartsR r' v' N ∧ N.length = X.length + 1 ∧ ∀ x ∈ N, ∀ f ∈ x.files, f.path.length ≤ 1000000 ∧ f.data.length ≤ 10000000 := by
  obtain ⟨Y, hY, hYr⟩ := filC_files h3 s3
  have hb := files_bounds (Z := Y) (hY ▸ hf)
  refine ⟨nextV X Z ++ [⟨v4, .slice none 0 0, Y, []⟩], ?_, ⟨⟨fun _ => rfl, ?_⟩, fun x hx => ?_⟩, ?_, fun x hx => ?_⟩
  · rw [List.map_append, nextV_key]
    unfold nextK
    rw [← hY]; rfl
  · rw [List.flatMap_append, List.length_append, nextV_len hl]
    exact h1.sl s1
  · rcases List.mem_append.1 hx with hx | hx
    · obtain ⟨y, hy, z, hz, rfl⟩ := nextV_mem hx
      exact ⟨((hX y hy).mono hr).1, rowsP_in h2 s2 z hz⟩
    · obtain rfl := List.mem_singleton.1 hx
      exact ⟨hYr, ⟨fun _ => rfl, Sl.nil _ _⟩⟩
  · rw [List.length_append, nextV_len hl]; rfl
  · rcases List.mem_append.1 hx with hx | hx
    · obtain ⟨y, hy, z, hz, rfl⟩ := nextV_mem hx
      exact hp y hy
    · obtain rfl := List.mem_singleton.1 hx
      exact hb.1
theorem rowsC_open {v : Value} {rows : List (List Int)} (h : Hp) (e : RowsC v rows h) : ∃ Z : List RowI, Z.map (·.nums) = rows ∧ all [RowC 36 1 v Z.length (Z.map (·.val)), RowsP Z] h := e
end Go.Proofs.YtmnehdpclnhmbaaGreat
