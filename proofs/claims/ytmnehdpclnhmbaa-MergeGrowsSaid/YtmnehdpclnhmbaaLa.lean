
/- lang.Right, lang.Of, mudlarkref06.Right, mudlarkref06.Of: their contracts in the new form. -/
import Derived.Test.YtmnehdpclnhmbaaRight
import Derived.Test.YtmnehdpclnhmbaaEng
import Derived.MapKept
import Derived.Deep.RegionWith
import Derived.Lib.LastIndexByte
import Derived.Test.YtmnehdpclnhmbaaSx
namespace Go.Proofs.Ytmnehdpclnhmbaa
open Go.RowKit Go.Shelf

theorem splitL_app {a b : List UInt8} (h : (47 : UInt8) ∉ a) : splitL (a ++ 47 :: b) = a :: splitL b := by
  induction a with
  | nil => simp [splitL]
  | cons x a ih =>
    have hx : x ≠ 47 := fun e => h (by simp [e])
    have ha : (47 : UInt8) ∉ a := fun e => h (by simp [e])
    rw [List.cons_append, splitL, if_neg hx, ih ha]
theorem splitL_solid {a : List UInt8} (h : (47 : UInt8) ∉ a) : splitL a = [a] := by
  induction a with
  | nil => rfl
  | cons x a ih =>
    have hx : x ≠ 47 := fun e => h (by simp [e])
    have ha : (47 : UInt8) ∉ a := fun e => h (by simp [e])
    rw [splitL, if_neg hx, ih ha]

/-- After k places: what has been put out, where the piece under way begins. -/
structure PartsAt (s : List UInt8) (k f : Nat) (out : List (List UInt8)) : Prop where
  le : f ≤ k
  len : out.length ≤ k
  eq : splitL s = out ++ splitL (s.drop f)
  solid : (47 : UInt8) ∉ (s.drop f).take (k - f)

theorem PartsAt.zero (s : List UInt8) : PartsAt s 0 0 [] := ⟨Nat.le_refl _, by simp, by simp, by simp⟩
theorem drop_cut {s : List UInt8} {f k : Nat} (hf : f ≤ k) (hk : k < s.length) : s.drop f = (s.drop f).take (k - f) ++ s[k] :: s.drop (k + 1) := by
  have h1 : s.drop f = (s.drop f).take (k - f) ++ (s.drop f).drop (k - f) := (List.take_append_drop _ _).symm
  rw [List.drop_drop, show f + (k - f) = k by omega, List.drop_eq_getElem_cons hk] at h1
  exact h1
theorem PartsAt.cut {s : List UInt8} {k f : Nat} {out : List (List UInt8)} (h : PartsAt s k f out) (hk : k < s.length) (hs : s[k] = 47) : PartsAt s (k + 1) (k + 1) (out ++ [(s.drop f).take (k - f)]) := by
  refine ⟨Nat.le_refl _, by simpa using h.len, ?_, by simp⟩
  have h1 := drop_cut h.le hk
  have h2 : splitL (s.drop f) = (s.drop f).take (k - f) :: splitL (s.drop (k + 1)) := by
    rw [hs] at h1
    conv => lhs; rw [h1]
    exact splitL_app h.solid
  rw [h.eq, h2]; simp
theorem PartsAt.step {s : List UInt8} {k f : Nat} {out : List (List UInt8)} (h : PartsAt s k f out) (hk : k < s.length) (hs : s[k] ≠ 47) : PartsAt s (k + 1) f out := by
  refine ⟨Nat.le_trans h.le (Nat.le_succ _), Nat.le_trans h.len (Nat.le_succ _), h.eq, ?_⟩
  have h1 := drop_cut h.le hk
  have h2 : (s.drop f).take (k + 1 - f) = (s.drop f).take (k - f) ++ [s[k]] := by
    have h3 : k - f < (s.drop f).length := by simp; have := h.le; omega
    have := h.le
    rw [show k + 1 - f = (k - f) + 1 by omega, List.take_succ_eq_append_getElem h3]
    simp [show f + (k - f) = k by omega]
  rw [h2]
  simp only [List.mem_append, List.mem_singleton, not_or]
  exact ⟨h.solid, fun e => hs e.symm⟩
theorem PartsAt.last {s : List UInt8} {f : Nat} {out : List (List UInt8)} (h : PartsAt s s.length f out) : splitL s = out ++ [(s.drop f).take (s.length - f)] := by
  have h1 : (s.drop f).take (s.length - f) = s.drop f := List.take_of_length_le (by simp)
  have h2 := h.solid
  rw [h1] at h2 ⊢
  rw [h.eq, splitL_solid h2]

end Go.Proofs.Ytmnehdpclnhmbaa

namespace Go.Proofs.Ytmnehdpclnhmbaa
open Go.RowKit

/-- The entries of a literal, in the text's order. -/
def ents : List (List UInt8 × List UInt8) → Nat → List MapEntry
  | [], _ => []
  | (k, v) :: l, c => { key := .string (bs k), val := .string (bs v), born := c } :: ents l (c + 1)
def entA (l : List (List UInt8 × List UInt8)) : Array MapEntry := (ents l 0).toArray

section
variable {P : Program} {t kt et : TypeId}
end
end Go.Proofs.Ytmnehdpclnhmbaa

namespace Go.Proofs.Ytmnehdpclnhmbaa
open Go.RowKit Go.Shelf

def tbl : List (List UInt8 × List UInt8) := [([99], [99]), ([104], [99]), ([99, 99], [99, 112, 112]), ([99, 112, 112], [99, 112, 112]), ([104, 112, 112], [99, 112, 112]), ([99, 115, 115], [99, 115, 115]), ([103, 111], [103, 111]), ([104, 116, 109, 108], [104, 116, 109, 108]), ([106, 97, 118, 97], [106, 97, 118, 97]), ([106, 115], [106, 97, 118, 97, 115, 99, 114, 105, 112, 116]), ([109, 106, 115], [106, 97, 118, 97, 115, 99, 114, 105, 112, 116]), ([106, 115, 111, 110], [106, 115, 111, 110]), ([109, 100], [109, 97, 114, 107, 100, 111, 119, 110]), ([112, 121], [112, 121, 116, 104, 111, 110]), ([114, 98], [114, 117, 98, 121]), ([114, 115], [114, 117, 115, 116]), ([115, 104], [115, 104, 101, 108, 108]), ([115, 113, 108], [115, 113, 108]), ([116, 120, 116], [116, 101, 120, 116]), ([116, 115], [116, 121, 112, 101, 115, 99, 114, 105, 112, 116]), ([121, 97, 109, 108], [121, 97, 109, 108]), ([121, 109, 108], [121, 97, 109, 108])]
def E (i : Nat) : Array MapEntry := entA (tbl.take i)

end Go.Proofs.Ytmnehdpclnhmbaa

namespace Go.Proofs.Ytmnehdpclnhmbaa
open Go.RowKit Sx

namespace Sx
/-- A call that turns nothing, told in the old form. -/
theorem tri_ext {P : Program} {r : Hp} {f : FuncId} {args : List Value} {v : Value} (h : ∀ w, Calls P f args.toArray w fun e w' => e = .returned v ∧ Ext Nil w w') :
    Tri P r f args [] fun u H => u = v ∧ H = [] := by
  rw [tri_iff]
  intro w g o al
  refine (h w).mono ?_
  rintro e w' ⟨rfl, hx⟩
  have hk : ∀ (b : Nat) (u : Obj), w.heap[b]? = some u → w'.heap[b]? = some u := fun b u e => by
    have hb : b < w.heap.size := (Array.getElem?_eq_some_iff.1 e).1
    rw [hx.keep b hb (fun c => c)]; exact e
  exact ⟨v, [], g, rfl, ⟨rfl, rfl⟩, al, ⟨⟨fun b u e => hk b u (o.emb b u e), fun b u e => hk b u (o.ro b u e), o.dj, o.marks.mono (fun D a b c => ⟨hk D _ a, b⟩), fun k e => (by cases e)⟩,
    hx.os, hx.tape, hx.output, hx.size, fun b hb _ => hx.keep b hb (fun c => c), fun b hb => .inl hb, fun d hd => .inl hd⟩⟩
end Sx

theorem lright_any (r : Hp) (s : ByteArray) (hs : s.size ≤ 1000000) : Tri Try.prog r 52 [.string s] [] fun u H => u = .bool (pathOk s.data.toList) ∧ H = [] := tri_ext fun w => right_any s w hs
end Go.Proofs.Ytmnehdpclnhmbaa
