
/- Postings: sizes; the places that are wanted. No program is named but through what is imported. -/
import Derived.Test.YtkbajhiahpkgiaaGreatPq
import Derived.Test.YtkbajhiahpkgiaaGreatFr
import Derived.Test.YtkbajhiahpkgiaaGreatPz
namespace Go.Proofs.YtkbajhiahpkgiaaGreat
open Go.RowKit Sx

def sizeQ (ps : List PostP) : Nat := (ps.map fun x => 1 + x.1.length + x.2.length).sum
theorem sizeQ_un (xs : List PostV) : sizeQ (xs.map unP) = sizeP xs := by unfold sizeQ sizeP; rw [List.map_map]; rfl
theorem sizeP_ge : ∀ xs : List PostV, xs.length ≤ sizeP xs ∧ ∀ x ∈ xs, x.gram.length ≤ sizeP xs ∧ x.pl.length ≤ sizeP xs
  | [] => ⟨Nat.le_refl _, fun x hx => by cases hx⟩
  | y :: xs => by
    obtain ⟨h1, h2⟩ := sizeP_ge xs
    unfold sizeP at h1 h2 ⊢
    rw [List.map_cons, List.sum_cons]
    refine ⟨by rw [List.length_cons]; omega, fun x hx => ?_⟩
    rcases List.mem_cons.1 hx with rfl | hx
    · omega
    · have := h2 x hx; omega
/-- The places that are wanted. -/
def wantP (xs : List PostV) (g : List UInt8) (d : Int) : List PlaceV := xs.flatMap fun x => x.pl.filter fun p => decide (x.gram = g) && decide (d ≤ p.doc)
theorem wantP_eq (xs : List PostV) (g : List UInt8) (d : Int) : wantP xs g d = fromP (xs.map unP) g d := by
  unfold wantP fromP; rw [List.flatMap_map]; rfl
theorem wantP_len : ∀ (xs : List PostV) (g : List UInt8) (d : Int), (wantP xs g d).length ≤ sizeP xs
  | [], _, _ => by simp [wantP]
  | x :: xs, g, d => by
    have ih := wantP_len xs g d
    unfold wantP sizeP at ih ⊢
    rw [List.flatMap_cons, List.length_append, List.map_cons, List.sum_cons]
    have := List.length_filter_le (fun p => decide (x.gram = g) && decide (d ≤ p.doc)) x.pl
    omega
theorem wantP_snoc {xs : List PostV} {k : Nat} (h : k < xs.length) (g : List UInt8) (d : Int) : wantP (xs.take (k + 1)) g d = wantP (xs.take k) g d ++ (xs.getD k default).pl.filter fun p => decide ((xs.getD k default).gram = g) && decide (d ≤ p.doc) := by
  unfold wantP
  rw [take_getD (d := default) h, List.flatMap_append]
  simp
theorem filt_snoc {l : List PlaceV} {k : Nat} (h : k < l.length) (q : PlaceV → Bool) : (l.take (k + 1)).filter q = (l.take k).filter q ++ (if q (l.getD k default) then [l.getD k default] else []) := by
  rw [take_getD (d := default) h, List.filter_append]
  congr 1
  simp [List.filter_cons]
end Go.Proofs.YtkbajhiahpkgiaaGreat
