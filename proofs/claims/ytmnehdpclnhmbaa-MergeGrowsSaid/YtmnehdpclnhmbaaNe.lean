
/- What a part's row comes to, sorted. No program. -/
import Derived.Test.YtmnehdpclnhmbaaNd
namespace Go.Proofs.Ytmnehdpclnhmbaa
open Go.RowKit Go.Sort Sx

theorem sortI_perm (l : List Int) : (sortI l).Perm l := List.mergeSort_perm _ _
theorem sortI_le (l : List Int) : (sortI l).Pairwise (· ≤ ·) := by
  have h := List.pairwise_mergeSort (le := fun x y : Int => decide (x ≤ y)) (fun a b c h1 h2 => by simp only [decide_eq_true_eq] at h1 h2 ⊢; omega) (fun a b => by simp only [Bool.or_eq_true, decide_eq_true_eq]; omega) l
  exact h.imp fun h => by simpa using h
theorem sortI_lt {l : List Int} (h : l.Nodup) : (sortI l).Pairwise (· < ·) := by
  have h1 := sortI_le l
  have h2 : (sortI l).Nodup := (sortI_perm l).nodup_iff.2 h
  have h3 := h1.and h2
  exact h3.imp fun {a b} h => by
    have h4 := h.1
    have h5 : a ≠ b := h.2
    omega
/-- The numbers of living files whose paths are gone. -/
def goneN (V : List (Nat × FileV)) (d : List ChK) : List Int := (V.filter fun y => hasP d y.2.path).map fun y => (y.1 : Int)
theorem livV_at (dead : List Int) : ∀ (fs : List FileV) (k : Nat) (y : Nat × FileV), y ∈ livV dead k fs ↔ k ≤ y.1 ∧ fs[y.1 - k]? = some y.2 ∧ (y.1 : Int) ∉ dead
  | [], k, y => by simp [livV]
  | f :: fs, k, y => by
    obtain ⟨j, g⟩ := y
    have hs : ∀ h : k < j, (f :: fs)[j - k]? = fs[j - (k + 1)]? := fun h => by
      rw [show j - k = (j - (k + 1)) + 1 by omega, List.getElem?_cons_succ]
    have ih := livV_at dead fs (k + 1) (j, g)
    dsimp only at ih ⊢
    unfold livV
    by_cases e : j = k
    · subst e
      rw [Nat.sub_self, List.getElem?_cons_zero]
      split
      · rename_i c
        rw [ih]
        exact ⟨fun h => absurd h.1 (by omega), fun h => absurd c h.2.2⟩
      · rename_i c
        rw [List.mem_cons, ih]
        constructor
        · rintro (h | h)
          · simp only [Prod.mk.injEq, true_and] at h
            exact ⟨Nat.le_refl _, by rw [h], c⟩
          · exact absurd h.1 (by omega)
        · rintro ⟨_, h, _⟩
          injection h with h
          exact .inl (by rw [h])
    · have hm : (j, g) ∈ livV dead (k + 1) fs ↔ k ≤ j ∧ (f :: fs)[j - k]? = some g ∧ (j : Int) ∉ dead := by
        rw [ih]
        constructor
        · rintro ⟨h1, h2, h3⟩
          exact ⟨by omega, by rw [hs (by omega)]; exact h2, h3⟩
        · rintro ⟨h1, h2, h3⟩
          exact ⟨by omega, by rw [← hs (by omega)]; exact h2, h3⟩
      split
      · exact hm
      · rw [List.mem_cons, hm]
        exact ⟨fun h => h.resolve_left fun h2 => e (congrArg Prod.fst h2), .inr⟩
theorem livV_ris (dead : List Int) : ∀ (fs : List FileV) (k : Nat), (livV dead k fs).Pairwise fun a b => a.1 < b.1
  | [], _ => List.Pairwise.nil
  | f :: fs, k => by
    have ih := livV_ris dead fs (k + 1)
    unfold livV
    split
    · exact ih
    · refine List.pairwise_cons.2 ⟨fun y hy => ?_, ih⟩
      have := ((livV_at dead fs (k + 1) y).1 hy).1
      show k < y.1
      omega
theorem row_sort {x : PartM} (h : oneOk x.key = true) (d : List ChK) : sortI (x.dead ++ goneN (livV x.dead 0 x.files) d) = rowK x.key d := by
  obtain ⟨h1, h2⟩ := one_dead h
  have hk : x.key.files.length = x.files.length := List.length_map ..
  have hmem : ∀ z : Int, z ∈ goneN (livV x.dead 0 x.files) d ↔ ∃ j : Nat, z = j ∧ j < x.files.length ∧ (j : Int) ∉ x.dead ∧ hasP d (x.files.getD j default).path = true := fun z => by
    unfold goneN
    rw [List.mem_map]
    constructor
    · rintro ⟨y, hy, rfl⟩
      obtain ⟨hy, hp⟩ := List.mem_filter.1 hy
      obtain ⟨_, h4, h5⟩ := (livV_at _ _ _ _).1 hy
      rw [Nat.sub_zero] at h4
      refine ⟨y.1, rfl, (List.getElem?_eq_some_iff.1 h4).1, h5, ?_⟩
      rw [List.getD_eq_getElem?_getD, h4]
      exact hp
    · rintro ⟨j, rfl, h4, h5, h6⟩
      refine ⟨(j, x.files.getD j default), List.mem_filter.2 ⟨(livV_at _ _ _ _).2 ⟨Nat.zero_le _, ?_, h5⟩, h6⟩, rfl⟩
      rw [Nat.sub_zero, List.getElem?_eq_getElem h4, List.getD_eq_getElem?_getD, List.getElem?_eq_getElem h4]
      rfl
  have hno : (x.dead ++ goneN (livV x.dead 0 x.files) d).Nodup := by
    rw [List.nodup_append]
    refine ⟨h2.imp fun {a b} h => by show a ≠ b; omega, ?_, fun a ha b hb e => ?_⟩
    · unfold goneN
      rw [List.Nodup, List.pairwise_map]
      exact ((livV_ris x.dead x.files 0).filter _).imp fun {a b} h => by
        show (a.1 : Int) ≠ b.1
        omega
    · subst e
      obtain ⟨j, rfl, _, h5, _⟩ := (hmem _).1 hb
      exact h5 ha
  refine ris_extI (sortI_lt hno) (row_ris _ _) fun z => ?_
  rw [(sortI_perm _).mem_iff, List.mem_append, hmem]
  constructor
  · rintro (h3 | ⟨j, rfl, h4, h5, h6⟩)
    · have := h1 z h3
      obtain ⟨j, rfl⟩ : ∃ j : Nat, z = j := ⟨z.toNat, by omega⟩
      exact mem_row.2 ⟨by omega, .inl h3⟩
    · refine mem_row.2 ⟨by omega, .inr ?_⟩
      have : x.key.files.getD j default = (x.files.getD j default).key := by
        rw [show x.key.files = x.files.map FileV.key from rfl, List.getD_eq_getElem?_getD, List.getElem?_map, List.getElem?_eq_getElem h4, List.getD_eq_getElem?_getD, List.getElem?_eq_getElem h4]
        rfl
      rw [this]
      exact h6
  · intro h3
    have hz : ∃ j : Nat, z = j := by
      unfold rowK at h3
      obtain ⟨j, _, rfl⟩ := List.mem_map.1 h3
      exact ⟨j, rfl⟩
    obtain ⟨j, rfl⟩ := hz
    obtain ⟨h4, h5⟩ := mem_row.1 h3
    rw [hk] at h4
    by_cases h6 : (j : Int) ∈ x.dead
    · exact .inl h6
    · refine .inr ⟨j, rfl, h4, h6, ?_⟩
      have h7 := h5.resolve_left h6
      have : x.key.files.getD j default = (x.files.getD j default).key := by
        rw [show x.key.files = x.files.map FileV.key from rfl, List.getD_eq_getElem?_getD, List.getElem?_map, List.getElem?_eq_getElem h4, List.getD_eq_getElem?_getD, List.getElem?_eq_getElem h4]
        rfl
      rw [this] at h7
      exact h7
theorem any_filter (q : KeyM → Bool) : ∀ V : List (Nat × FileV), (!(((V.map (·.2)).map FileV.key).filter q).isEmpty) = V.any fun y => q y.2.key
  | [] => rfl
  | y :: V => by
    have ih := any_filter q V
    rw [List.map_cons, List.map_cons, List.filter_cons, List.any_cons]
    cases q y.2.key
    · rw [if_neg (by simp), Bool.false_or]; exact ih
    · rw [if_pos rfl, Bool.true_or]; rfl
theorem row_lives (x : PartM) (d : List ChK) : decide ((rowK x.key d).length < x.key.files.length) = (livV x.dead 0 x.files).any fun y => !hasP d y.2.path := by
  have h := livV_liv x
  rw [← lives_row]
  unfold livesK
  rw [liv_row, ← h]
  exact any_filter (fun f => !hasP d f.1) _
end Go.Proofs.Ytmnehdpclnhmbaa
