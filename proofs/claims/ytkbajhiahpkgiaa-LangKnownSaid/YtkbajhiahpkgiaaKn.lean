/- The language of paths, in plain words: it is one of all; what has no point has none; what ends in a known extension has that one's. -/
import Derived.Test.YtkbajhiahpkgiaaLaws06
namespace Go.Proofs.Ytkbajhiahpkgiaa

/-- All languages, rising, each once. -/
def allL : List (List UInt8) := [[99], [99, 112, 112], [99, 115, 115], [103, 111], [104, 116, 109, 108], [106, 97, 118, 97], [106, 97, 118, 97, 115, 99, 114, 105, 112, 116], [106, 115, 111, 110], [109, 97, 114, 107, 100, 111, 119, 110], [112, 121, 116, 104, 111, 110], [114, 117, 98, 121], [114, 117, 115, 116], [115, 104, 101, 108, 108], [115, 113, 108], [116, 101, 120, 116], [116, 121, 112, 101, 115, 99, 114, 105, 112, 116], [121, 97, 109, 108]]
theorem look_mem {x v : List UInt8} : ∀ {t : List (List UInt8 × List UInt8)}, look t x = some v → v ∈ t.map (·.2)
  | [], h => by simp [look] at h
  | (k, w) :: t, h => by
    unfold look at h
    split at h
    · injection h with h; simp [h]
    · simp [look_mem h]
theorem tbl_all : ∀ v ∈ tbl.map (·.2), v ∈ allL := by decide
theorem refAt_mem {l : List UInt8} : ∀ {k : Nat}, 1 ≤ refAt l k → (46 : UInt8) ∈ l
  | 0, h => by simp [refAt] at h
  | k + 1, h => by
    unfold refAt at h
    split at h
    · rename_i c; exact List.mem_of_getElem? c.2
    · exact refAt_mem h
theorem langOf_mem (s : List UInt8) : langOf s = [] ∨ langOf s ∈ allL := by
  rw [langOf_eq]
  split
  · exact .inl rfl
  · cases h : look tbl ((lastPart s).drop ((refAt (lastPart s) (lastPart s).length).toNat + 1)) with
    | none => exact .inl rfl
    | some v => exact .inr (tbl_all v (look_mem h))
theorem lastPart_none {s : List UInt8} (h : (47 : UInt8) ∉ s) : lastPart s = s := by
  have : splitL s = [s] := by
    induction s with
    | nil => rfl
    | cons b l ih =>
      simp only [List.mem_cons, not_or] at h
      rw [splitL, if_neg (fun e => h.1 e.symm), ih h.2]
  unfold lastPart
  simp only [this, List.getLast_singleton]
theorem lastPart_join (a b : List UInt8) : lastPart (a ++ 47 :: b) = lastPart b := by
  unfold lastPart
  simp only [splitL_join]
  rw [List.getLast_append_of_ne_nil _ (splitL_ne b)]
theorem last_cut (s : List UInt8) : (47 : UInt8) ∉ s ∨ ∃ a b, s = a ++ 47 :: b ∧ (47 : UInt8) ∉ b := by
  induction s with
  | nil => exact .inl (by simp)
  | cons x s ih =>
    rcases ih with h | ⟨a, b, rfl, h⟩
    · by_cases hx : x = 47
      · subst hx; exact .inr ⟨[], s, rfl, h⟩
      · exact .inl (by simp only [List.mem_cons, not_or]; exact ⟨fun e => hx e.symm, h⟩)
    · exact .inr ⟨x :: a, b, rfl, h⟩
theorem lastPart_sub {s : List UInt8} {c : UInt8} (h : c ∈ lastPart s) : c ∈ s := by
  rcases last_cut s with e | ⟨a, b, rfl, e⟩
  · rwa [lastPart_none e] at h
  · rw [lastPart_join, lastPart_none e] at h; simp [h]
theorem langOf_dot {s : List UInt8} (h : langOf s ≠ []) : (46 : UInt8) ∈ s := by
  rw [langOf_eq] at h
  split at h
  · exact absurd rfl h
  · rename_i c
    exact lastPart_sub (refAt_mem (k := (lastPart s).length) (by omega))
theorem langOf_noend {s : List UInt8} (h : lastPart s = []) : langOf s = [] := by rw [langOf_eq, h]; rfl
theorem lastPart_end {s : List UInt8} (h : s = [] ∨ s.getD (s.length - 1) 0 = 47) : lastPart s = [] := by
  rcases last_cut s with e | ⟨a, b, rfl, e⟩
  · rcases h with rfl | h
    · rfl
    · cases hs : s with
      | nil => rfl
      | cons x l =>
        exfalso
        apply e
        have hl : s.length - 1 < s.length := by rw [hs]; simp
        rw [List.getD_eq_getElem?_getD, List.getElem?_eq_getElem hl] at h
        rw [← (by simpa using h : s[s.length - 1] = 47)]
        exact List.getElem_mem _
  · rw [lastPart_join, lastPart_none e]
    cases b with
    | nil => rfl
    | cons x l =>
      exfalso
      rcases h with h | h
      · simp at h
      · apply e
        have hl : (a ++ 47 :: x :: l).length - 1 < (a ++ 47 :: x :: l).length := by simp
        rw [List.getD_eq_getElem?_getD, List.getElem?_eq_getElem hl] at h
        have h' : (a ++ 47 :: x :: l)[(a ++ 47 :: x :: l).length - 1] = 47 := by simpa using h
        rw [List.getElem_append_right (by simp)] at h'
        have e2 : (a ++ 47 :: x :: l).length - 1 - a.length = l.length + 1 := by simp
        simp only [e2, List.getElem_cons_succ] at h'
        rw [← h']
        exact List.getElem_mem _
theorem lastPart_noend {s : List UInt8} (h0 : s ≠ []) (h1 : s.getD (s.length - 1) 0 ≠ 47) : lastPart s ≠ [] := by
  rcases last_cut s with e | ⟨a, b, rfl, e⟩
  · rw [lastPart_none e]; exact h0
  · rw [lastPart_join, lastPart_none e]
    rintro rfl
    apply h1
    simp
theorem lastPart_app (s t : List UInt8) (ht : (47 : UInt8) ∉ t) : lastPart (s ++ t) = lastPart s ++ t := by
  rcases last_cut s with e | ⟨a, b, rfl, e⟩
  · rw [lastPart_none e, lastPart_none (by simp [e, ht])]
  · rw [List.append_assoc, List.cons_append, lastPart_join, lastPart_join, lastPart_none e, lastPart_none (by simp [e, ht])]
theorem refAt_dot {p e : List UInt8} (hp : p ≠ []) (he : (46 : UInt8) ∉ e) : ∀ {k : Nat}, p.length < k → k ≤ p.length + 1 + e.length → refAt (p ++ 46 :: e) k = p.length
  | 0, h, _ => by omega
  | k + 1, h, h2 => by
    have h3 : 1 ≤ p.length := List.length_pos_iff.2 hp
    unfold refAt
    by_cases hk : k = p.length
    · rw [if_pos ⟨by omega, by rw [hk]; simp⟩, hk]
    · have hne : ¬ (p ++ 46 :: e)[k]? = some 46 := by
        rw [List.getElem?_append_right (by omega), show k - p.length = (k - p.length - 1) + 1 by omega, List.getElem?_cons_succ]
        exact fun h => he (List.mem_of_getElem? h)
      rw [if_neg (fun h => hne h.2)]
      exact refAt_dot hp he (by omega) (by omega)
theorem langOf_ext (s e : List UInt8) (h : lastPart s ≠ []) (h1 : (47 : UInt8) ∉ e) (h2 : (46 : UInt8) ∉ e) : langOf (s ++ 46 :: e) = (look tbl e).getD [] := by
  have hl := lastPart_app s (46 :: e) (by simp [h1])
  have hr : refAt (lastPart s ++ 46 :: e) (lastPart s ++ 46 :: e).length = (lastPart s).length := refAt_dot h h2 (by simp) (by simp; omega)
  have h3 : 1 ≤ (lastPart s).length := List.length_pos_iff.2 h
  rw [langOf_eq, hl, hr, if_neg (by omega)]
  congr 2
  rw [Int.toNat_natCast, List.drop_append, List.drop_eq_nil_of_le (by omega), show (lastPart s).length + 1 - (lastPart s).length = 1 by omega]
  rfl
theorem langOf_rs {s : List UInt8} (h : lastPart s ≠ []) : langOf (s ++ [46, 114, 115]) = [114, 117, 115, 116] ∧ langOf (s ++ [46, 110, 111, 110, 101]) = [] := by
  constructor
  · rw [langOf_ext s [114, 115] h (by decide) (by decide)]; decide
  · rw [langOf_ext s [110, 111, 110, 101] h (by decide) (by decide)]; decide
end Go.Proofs.Ytkbajhiahpkgiaa
