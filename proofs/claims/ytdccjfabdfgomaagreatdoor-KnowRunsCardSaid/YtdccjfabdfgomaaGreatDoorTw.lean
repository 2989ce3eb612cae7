
/- Tw: two slices that share a block or do not: what an append to the one leaves of the other. No program is named. Rm: rows that may be marked behind their end (what a string was turned into): read, appended to. No program is named. Tn: rows whose elements have several cells: an element is stored; rows of zeros are made. No program is named. -/
import Derived.Test.YtdccjfabdfgomaaGreatDoorPu
import Derived.ArgAppend
import Derived.Deep.Upon
namespace Go.Proofs.YtdccjfabdfgomaaGreatDoor
open Go.RowKit
namespace Sx

/-- u was grown out of v: in v's block, behind v's end, or in one of its own. -/
def Two (E : TypeId) (sz : Nat) (v : Value) (n : Nat) (xs : List Value) (u : Value) (m : Nat) (ys : List Value) : Ch := fun h =>
  (∃ b cap cur, v = .slice (some ⟨b, 0, none⟩) n cap ∧ u = .slice (some ⟨b, 0, none⟩) m cap ∧ n ≤ m ∧ m ≤ cap ∧ cap ≤ maxLen ∧ h = one b (.cells cur E (0, 0)) ∧ cur.size = cap * sz ∧ cur.toList.take (n * sz) = xs ∧ cur.toList.take (m * sz) = ys) ∨
  all [RowC E sz v n xs, RowC E sz u m ys] h
variable {P : Program} {l : Option Nat} {r : Hp} {Q : Exit → St} {K : St} {t : List Value} {H : List Ch} {d : Option Tmp} {ty : TypeId} {pos : String} {af : Array Edge} {gd : Option (Nat × Bool)}
theorem Two.start {E : TypeId} {sz n : Nat} {v : Value} {xs : List Value} {h : Hp} (hR : RowC E sz v n xs h) : Two E sz v n xs v n xs h := by
  rcases hR.2 with ⟨rfl, rfl, rfl⟩ | ⟨b, cap, cur, rfl, rfl, h1, h2, h3, h4⟩
  · exact .inr ⟨emp, emp, emp_dj, emp_un.symm, hR, emp, emp, emp_dj, emp_un.symm, hR, rfl⟩
  · exact .inl ⟨b, cap, cur, rfl, rfl, Nat.le_refl _, h1, h2, rfl, h3, h4, h4⟩
/-- What was grown is let go. -/
theorem Two.first {E : TypeId} {sz n m : Nat} {v u : Value} {xs ys : List Value} {h : Hp} (hT : Two E sz v n xs u m ys h) : ∃ g k, dj g k ∧ h = un g k ∧ RowC E sz v n xs g := by
  rcases hT with ⟨b, cap, cur, rfl, rfl, h0, h1, h2, rfl, h3, h4, h5⟩ | ⟨g, k, d, rfl, hA, _⟩
  · refine ⟨_, emp, dj_emp, un_emp.symm, ?_, .inr ⟨b, cap, cur, rfl, rfl, by omega, h2, h3, h4⟩⟩
    rw [← h4, List.length_take, Array.length_toList, h3]
    exact Nat.min_eq_left (Nat.mul_le_mul_right _ (by omega))
  · exact ⟨g, k, d, rfl, hA⟩
/-- What an alternative of the walk asks of the operation ahead of dearer steps. -/
theorem swo_isCall {P : Program} {l : Option Nat} {r : Hp} {K : St} {t : List Value} {H : List Ch} {d : Option Tmp} {ty : TypeId} {pos : String} {af : Array Edge} {gd : Option (Nat × Bool)} {a : Array Operand} {b : Array TypeId} (f : FuncId) (h : SWo P l r ⟨d, .call { callee := .value (.func f), args := a, argTypes := b }, ty, pos, af, gd⟩ K t H) : SWo P l r ⟨d, .call { callee := .value (.func f), args := a, argTypes := b }, ty, pos, af, gd⟩ K t H := h
theorem swo_isApp {P : Program} {l : Option Nat} {r : Hp} {K : St} {t : List Value} {H : List Ch} {d : Option Tmp} {ty : TypeId} {pos : String} {af : Array Edge} {gd : Option (Nat × Bool)} {a : Array Operand} {b : Array TypeId} (h : SWo P l r ⟨d, .call { callee := .builtin .append, args := a, argTypes := b }, ty, pos, af, gd⟩ K t H) : SWo P l r ⟨d, .call { callee := .builtin .append, args := a, argTypes := b }, ty, pos, af, gd⟩ K t H := h
/-! A family of pieces, of which those below k were turned. -/
end Sx
end Go.Proofs.YtdccjfabdfgomaaGreatDoor

namespace Go.Proofs.YtdccjfabdfgomaaGreatDoor
open Go.RowKit
namespace Sx

/-- An owned row whose cells can all be written, marked or not. -/
def RowM (E : TypeId) (sz : Nat) (v : Value) (n : Nat) (xs : List Value) : Ch := fun h =>
  xs.length = n * sz ∧ ((v = .slice none 0 0 ∧ n = 0 ∧ h = emp) ∨ ∃ g cap cur fz, v = .slice (some ⟨g, 0, none⟩) n cap ∧ h = one g (.cells cur E fz) ∧ n ≤ cap ∧ cap ≤ maxLen ∧ cur.size = cap * sz ∧ cur.toList.take (n * sz) = xs ∧ ∀ j, j < cur.size → ¬ (fz.1 ≤ j ∧ j < fz.2))
theorem RowM.of {E : TypeId} {sz n : Nat} {v : Value} {xs : List Value} {h : Hp} (e : RowC E sz v n xs h) : RowM E sz v n xs h := by
  refine ⟨e.1, ?_⟩
  rcases e.2 with h1 | ⟨g, cap, cur, h1, h2, h3, h4, h5, h6⟩
  · exact .inl h1
  · exact .inr ⟨g, cap, cur, (0, 0), h1, h2, h3, h4, h5, h6, fun j _ h => by have := h.2; omega⟩
theorem RowM.sl {E : TypeId} {sz n : Nat} {v : Value} {xs : List Value} {g r : Hp} (h : RowM E sz v n xs g) (hs : sub g r) : Sl r sz v n xs := by
  rcases h.2 with ⟨rfl, rfl, rfl⟩ | ⟨b, cap, cur, fz, rfl, rfl, h1, h2, h3, h4, _⟩
  · exact ⟨h.1, Nat.zero_le _, .inl ⟨⟨none, rfl⟩, rfl⟩⟩
  · refine ⟨h.1, Nat.le_trans h1 h2, .inr ⟨b, 0, cap, cur, E, fz, rfl, h1, hs _ _ one_same, fun j hj => ?_⟩⟩
    rw [Nat.zero_add, ← Array.getElem?_toList]
    have e : (cur.toList.take (n * sz))[j]? = some xs[j] := by rw [h4]; exact List.getElem?_eq_getElem hj
    rw [List.getElem?_take] at e
    split at e
    · exact e
    · cases e
section
variable {P : Program} {l : Option Nat} {r : Hp} {Q : Exit → St} {K : St} {t : List Value} {H : List Ch} {d : Option Tmp} {ty : TypeId} {pos : String} {af : Array Edge} {gd : Option (Nat × Bool)}
end
end Sx
end Go.Proofs.YtdccjfabdfgomaaGreatDoor

namespace Go.Proofs.YtdccjfabdfgomaaGreatDoor
open Go.RowKit
namespace Sx

section
variable {P : Program} {l : Option Nat} {r : Hp} {Q : Exit → St} {K : St} {t : List Value} {H : List Ch} {d : Option Tmp} {ty : TypeId} {pos : String} {af : Array Edge} {gd : Option (Nat × Bool)}
theorem setN_sz : ∀ (vs : List Value) (c : Array Value) (k : Nat), (setN c k vs).size = c.size
  | [], _, _ => rfl
  | v :: vs, c, k => by rw [setN, setN_sz vs, Array.size_setIfInBounds]
theorem setN_put {c : Array Value} {xs vs : List Value} {j m : Nat} (hm : m ≤ c.size) (hx : c.toList.take m = xs) (hj : j + vs.length ≤ xs.length) : (setN c j vs).toList.take m = xs.take j ++ (vs ++ xs.drop (j + vs.length)) := by
  have hxl : xs.length = m := by rw [← hx, List.length_take, Array.length_toList]; omega
  apply List.ext_getElem?
  intro i
  have hl : (xs.take j).length = j := by rw [List.length_take]; omega
  have hxi : ∀ i, i < m → xs[i]? = c[i]? := fun i hi => by rw [← hx, List.getElem?_take, if_pos hi, Array.getElem?_toList]
  by_cases hi : i < m
  · rw [List.getElem?_take, if_pos hi, Array.getElem?_toList, setN_get vs c j i (by omega)]
    by_cases h1 : i < j
    · rw [if_neg (by omega), List.getElem?_append_left (by rw [hl]; exact h1), List.getElem?_take, if_pos h1, hxi i hi]
    · rw [List.getElem?_append_right (by rw [hl]; omega), hl]
      by_cases h2 : i < j + vs.length
      · rw [if_pos ⟨by omega, h2⟩, List.getElem?_append_left (by omega)]
      · rw [if_neg (by omega), List.getElem?_append_right (by omega), List.getElem?_drop, show j + vs.length + (i - j - vs.length) = i by omega, hxi i hi]
  · rw [List.getElem?_take, if_neg hi, List.getElem?_eq_none (by simp only [List.length_append, List.length_take, List.length_drop]; omega)]
/-- A struct is stored as a row's element. -/
theorem kx_stCN {T E : TypeId} {x y : Operand} {u : Value} {vs : List Value} {sz n m j : Nat} {xs : List Value} {H' : List Ch} (hT : sizeB P T = some m) (hx : evO t x = some (.pointer (some ⟨blkV u, offV u + j, none⟩))) (hy : evO t y = some (.agg vs.toArray)) (hl : vs.length = m) (ht : Take (RowC E sz u n xs) H H') (hv : vs.all one? = true) (h0 : decide (0 < m) = true) (hj : j + m ≤ xs.length)
    (hk : K (putL t d undef) (RowC E sz u n (xs.take j ++ (vs ++ xs.drop (j + m))) :: H')) : SWo P l r ⟨d, .store T x y, ty, pos, af, gd⟩ K t H := by
  intro w g0 ds ok al
  subst hl
  have h0' : 0 < vs.length := by simpa using h0
  obtain ⟨a, k, dd, rfl, hR, al'⟩ := ht.all al
  rcases hR.2 with ⟨rfl, rfl, _⟩ | ⟨b, cap, cur, rfl, rfl, h1, h2, h3, h4⟩
  · have := hR.1; simp at this; subst this; simp only [List.length_nil] at hj; omega
  · have hcap : n * sz ≤ cap * sz := Nat.mul_le_mul_right _ h1
    have hxl := hR.1
    have hk2 : ∀ h, pt b (.cells (setN cur j vs) E (0, 0)) h → RowC E sz (.slice (some ⟨b, 0, none⟩) n cap) n (xs.take j ++ (vs ++ xs.drop (j + vs.length))) h := fun h e => by
      refine ⟨by simp only [List.length_append, List.length_take, List.length_drop]; omega, .inr ⟨b, cap, _, rfl, e, h1, h2, by rw [setN_sz, h3], ?_⟩⟩
      exact setN_put (by omega) h4 hj
    simp only [blkV, offV, Nat.zero_add] at hx
    exact swo_post (swo_storeN (P := P) (l := l) (r := r) (t := t) (o := ⟨d, .store T x y, ty, pos, af, gd⟩) (E := E) (vs := vs) rfl hT (ev_of hx) (ev_of hy) (fun v h => List.all_eq_true.1 hv v h) (Take.here (H := H')) (by omega) ⟨_, _, _, Take.here, hk2, hk⟩) w _ ds ok ⟨_, _, dd, rfl, rfl, al'⟩
end
end Sx
end Go.Proofs.YtdccjfabdfgomaaGreatDoor
