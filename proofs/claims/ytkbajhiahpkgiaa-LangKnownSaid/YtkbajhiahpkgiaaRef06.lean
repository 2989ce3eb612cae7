/- mudlarkref06: parts, Right: their contracts. -/
import Derived.Test.YtkbajhiahpkgiaaRight
namespace Go.Proofs.Ytkbajhiahpkgiaa
open Go.RowKit Go.Shelf

theorem splitL_app {a b : List UInt8} (h : (47 : UInt8) ∉ a) : splitL (a ++ 47 :: b) = a :: splitL b := by
  induction a with
  | nil => simp [splitL]
  | cons x a ih =>
    have hx : x ≠ 47 := fun e => h (by simp [e])
    have ha : (47 : UInt8) ∉ a := fun e => h (by simp [e])
    rw [List.cons_append, splitL, if_neg hx, ih ha]
theorem splitL_solid {a : List UInt8} (h : (47 : UInt8) ∉ a) : splitL a = [a] := by
  induction a with
  | nil => rfl
  | cons x a ih =>
    have hx : x ≠ 47 := fun e => h (by simp [e])
    have ha : (47 : UInt8) ∉ a := fun e => h (by simp [e])
    rw [splitL, if_neg hx, ih ha]

theorem info_string : (Try.prog.info? 9).map (fun i => (i.zero, i.size, i.bytes)) = some (some (.string ByteArray.empty), 1, 16) := by kernel_rfl

theorem splitL_count (l : List UInt8) : (splitL l).length ≤ l.length + 1 := by
  induction l with
  | nil => simp [splitL]
  | cons b l ih =>
    unfold splitL
    split
    · simp; omega
    · split
      · rename_i h; rw [h] at ih; simp at *; omega
      · simp

/-- After k places: what has been put out, where the piece under way begins. -/
structure PartsAt (s : List UInt8) (k f : Nat) (out : List (List UInt8)) : Prop where
  le : f ≤ k
  len : out.length ≤ k
  eq : splitL s = out ++ splitL (s.drop f)
  solid : (47 : UInt8) ∉ (s.drop f).take (k - f)

theorem PartsAt.zero (s : List UInt8) : PartsAt s 0 0 [] := ⟨Nat.le_refl _, by simp, by simp, by simp⟩
theorem drop_cut {s : List UInt8} {f k : Nat} (hf : f ≤ k) (hk : k < s.length) : s.drop f = (s.drop f).take (k - f) ++ s[k] :: s.drop (k + 1) := by
  have h1 : s.drop f = (s.drop f).take (k - f) ++ (s.drop f).drop (k - f) := (List.take_append_drop _ _).symm
  rw [List.drop_drop, show f + (k - f) = k by omega, List.drop_eq_getElem_cons hk] at h1
  exact h1
theorem PartsAt.cut {s : List UInt8} {k f : Nat} {out : List (List UInt8)} (h : PartsAt s k f out) (hk : k < s.length) (hs : s[k] = 47) : PartsAt s (k + 1) (k + 1) (out ++ [(s.drop f).take (k - f)]) := by
  refine ⟨Nat.le_refl _, by simpa using h.len, ?_, by simp⟩
  have h1 := drop_cut h.le hk
  have h2 : splitL (s.drop f) = (s.drop f).take (k - f) :: splitL (s.drop (k + 1)) := by
    rw [hs] at h1
    conv => lhs; rw [h1]
    exact splitL_app h.solid
  rw [h.eq, h2]; simp
theorem PartsAt.step {s : List UInt8} {k f : Nat} {out : List (List UInt8)} (h : PartsAt s k f out) (hk : k < s.length) (hs : s[k] ≠ 47) : PartsAt s (k + 1) f out := by
  refine ⟨Nat.le_trans h.le (Nat.le_succ _), Nat.le_trans h.len (Nat.le_succ _), h.eq, ?_⟩
  have h1 := drop_cut h.le hk
  have h2 : (s.drop f).take (k + 1 - f) = (s.drop f).take (k - f) ++ [s[k]] := by
    have h3 : k - f < (s.drop f).length := by simp; have := h.le; omega
    have := h.le
    rw [show k + 1 - f = (k - f) + 1 by omega, List.take_succ_eq_append_getElem h3]
    simp [show f + (k - f) = k by omega]
  rw [h2]
  simp only [List.mem_append, List.mem_singleton, not_or]
  exact ⟨h.solid, fun e => hs e.symm⟩
theorem PartsAt.last {s : List UInt8} {f : Nat} {out : List (List UInt8)} (h : PartsAt s s.length f out) : splitL s = out ++ [(s.drop f).take (s.length - f)] := by
  have h1 : (s.drop f).take (s.length - f) = s.drop f := List.take_of_length_le (by simp)
  have h2 := h.solid
  rw [h1] at h2 ⊢
  rw [h.eq, splitL_solid h2]

theorem extract_bs (s : ByteArray) (f k : Nat) : s.extract f k = bs ((s.data.toList.drop f).take (k - f)) := by
  apply ByteArray.ext
  simp [bs]
  apply Array.ext'
  simp [List.extract_eq_take_drop]

def strs (l : List (List UInt8)) : List Value := l.map fun p => .string (bs p)

theorem all_strs (l : List (List UInt8)) (j : Nat) (h : j < l.length) : (strs l)[j]'(by simpa [strs] using h) = .string (bs l[j]) := by simp [strs]

theorem take_all_snoc {α : Type} {l : List α} {p : α → Bool} {k : Nat} (h : k < l.length) : (l.take (k + 1)).all p = ((l.take k).all p && p l[k]) := by
  rw [List.take_succ_eq_append_getElem h, List.all_append]; simp

theorem take_all_snoc' {α : Type} {l : List α} {p : α → Bool} {k : Nat} {x : α} (h : l[k]? = some x) : (l.take (k + 1)).all p = ((l.take k).all p && p x) := by
  obtain ⟨hk, rfl⟩ := List.getElem?_eq_some_iff.1 h
  exact take_all_snoc hk


def refOk (s : List UInt8) : Bool := decide (0 < s.length) && decide (s.length ≤ 200) && s.all byteOk && (splitL s).all nameOk
theorem refOk_bytes {s : List UInt8} {k : Nat} (hk : k < s.length) (h : byteOk s[k] = false) : refOk s = false := by
  have : s.all byteOk = false := by rw [List.all_eq_false]; exact ⟨s[k], List.getElem_mem hk, by simp [h]⟩
  simp [refOk, this]
theorem refOk_names {s p : List UInt8} {k : Nat} (hk : (splitL s)[k]? = some p) (h : nameOk p = false) : refOk s = false := by
  have : (splitL s).all nameOk = false := by rw [List.all_eq_false]; exact ⟨p, List.mem_of_getElem? hk, by simp [h]⟩
  simp [refOk, this]

end Go.Proofs.Ytkbajhiahpkgiaa
