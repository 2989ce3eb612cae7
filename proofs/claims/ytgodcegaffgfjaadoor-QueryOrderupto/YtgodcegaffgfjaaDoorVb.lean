
/- In place: addresses of a row's elements, stores of whole elements, swaps. No program is named. -/
import Derived.Test.YtgodcegaffgfjaaDoorVa
import Derived.Test.YtgodcegaffgfjaaDoorKg
namespace Go.Proofs.YtgodcegaffgfjaaDoor
open Go.RowKit
namespace Sx
section
variable {P : Program} {l : Option Nat} {r : Hp} {K : St} {t : List Value} {H : List Ch} {d : Option Tmp} {ty : TypeId} {pos : String} {af : Array Edge} {gd : Option (Nat × Bool)}
/-- The address of an element of a slice that is said by its parts. -/
theorem pu_ixF {sz n c : Nat} {B off : Nat} {T E : TypeId} {x y : Operand} {k : IntKind} {i : Int} {g : Bool} [TyE P T E] [hE : TyF P E g sz] (hx : evO t x = some (.slice (some ⟨B, off, none⟩) n c)) (hy : evO t y = some (.int k i)) (h0 : 0 ≤ i ∧ i < n) :
    Pur P r t ⟨d, .indexAddr T x y, ty, pos, af, gd⟩ (.pointer (some ⟨blkV (.slice (some ⟨B, off, none⟩) n c), offV (.slice (some ⟨B, off, none⟩) n c) + i.toNat * sz, none⟩)) := by
  refine ⟨rfl, fun w _ => ?_⟩
  simp [execOp, Instr.indexAt, asIntOf, ev_of hx, ev_of hy, Sem.run_bind, Result.andThen, run_underlying (ty_slc (P := P) (T := T)), run_sizeOf (P := P) (T := E) hE.size, h0.1, h0.2, add_none, blkV, offV]
/-- A whole element is stored. -/
theorem kx_stE {α : Type} {T E : TypeId} {x y : Operand} {u : Value} {sz n i : Nat} {enc : α → List Value} {xs : List α} {z : α} {H' : List Ch} (he : ∀ x, (enc x).length = sz) (h0 : decide (0 < sz) = true) (hT : sizeB P T = some sz) (hx : evO t x = some (.pointer (some ⟨blkV u, offV u + i * sz, none⟩))) (hy : evO t y = some (.agg (enc z).toArray)) (ht : Take (RowC E sz u n (xs.flatMap enc)) H H') (hv : (enc z).all one? = true) (hi : i < xs.length)
    (hk : K (putL t d undef) (RowC E sz u n ((xs.set i z).flatMap enc) :: H')) : SWo P l r ⟨d, .store T x y, ty, pos, af, gd⟩ K t H := by
  refine kx_stCN (j := i * sz) hT hx hy (he z) ht hv h0 ?_ ?_
  · rw [flat_len he]
    have : (i + 1) * sz ≤ xs.length * sz := Nat.mul_le_mul_right _ hi
    rw [Nat.succ_mul] at this; omega
  · have e : (xs.flatMap enc).take (i * sz) ++ (enc z ++ (xs.flatMap enc).drop (i * sz + sz)) = (xs.set i z).flatMap enc := by
      clear hk ht hx
      induction xs generalizing i with
      | nil => simp at hi
      | cons y xs ih =>
        cases i with
        | zero => rw [Nat.zero_mul, Nat.zero_add, List.take_zero, List.nil_append, List.flatMap_cons, List.set_cons_zero, List.flatMap_cons, ← he y, List.drop_left]
        | succ i =>
          have ih := ih (i := i) (by simpa using hi)
          rw [List.set_cons_succ, List.flatMap_cons, List.flatMap_cons, ← ih, Nat.add_mul, Nat.one_mul, show i * sz + sz = (enc y).length + i * sz by rw [he]; omega, List.take_length_add_append, show (enc y).length + i * sz + sz = (enc y).length + (i * sz + sz) by omega, List.drop_length_add_append, List.append_assoc, he, Nat.add_comm sz]
    rw [e]; exact hk
end
/-- An owned row that is not empty, opened. -/
theorem tri_rowF {P : Program} {r : Hp} {f : FuncId} {args : Option Addr → Nat → List Value} {R : Rt} {E : TypeId} {sz n : Nat} {xs : List Value} {H : List Ch} {a : Option Addr} {c : Nat} (hn : 0 < n) (h : ∀ b, a = some ⟨b, 0, none⟩ → Tri P r f (args a c) (RowC E sz (.slice a n c) n xs :: H) R) : Tri P r f (args a c) (RowC E sz (.slice a n c) n xs :: H) R :=
  tri_iff.2 fun w g ok al => by
    obtain ⟨g1, g2, dd, rfl, hR, hH⟩ := al
    rcases hR.2 with ⟨_, h0, _⟩ | ⟨b, cap, cur, hv, _⟩
    · omega
    · injection hv with e1 e2 e3
      exact tri_iff.1 (h b e1) w _ ok ⟨_, _, dd, rfl, hR, hH⟩
/-- What a compare function does. -/
def CmpBy {α : Type} (P : Program) (r : Hp) (gf : FuncId) (enc : α → List Value) (key : α → Tx) (xs : List α) : Prop := ∀ x ∈ xs, ∀ y ∈ xs, Tri P r gf [.agg (enc x).toArray, .agg (enc y).toArray] [] fun w H => (∃ c : Int, w = .int .i64 c ∧ (c < 0 ↔ key x < key y)) ∧ H = []
theorem CmpBy.up {α : Type} {P : Program} {r r' : Hp} {gf : FuncId} {enc : α → List Value} {key : α → Tx} {xs : List α} (h : CmpBy P r gf enc key xs) (hr : sub r r') : CmpBy P r' gf enc key xs := fun x hx y hy => (h x hx y hy).up hr
theorem CmpBy.of {α : Type} {P : Program} {r : Hp} {gf : FuncId} {enc : α → List Value} {key : α → Tx} {xs ys : List α} (h : CmpBy P r gf enc key xs) (hm : ∀ y ∈ ys, y ∈ xs) : CmpBy P r gf enc key ys := fun x hx y hy => h x (hm x hx) y (hm y hy)
end Sx
end Go.Proofs.YtgodcegaffgfjaaDoor
