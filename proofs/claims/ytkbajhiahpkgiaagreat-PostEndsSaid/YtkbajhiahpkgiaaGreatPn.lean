
/- Postings: sizes; the places that are wanted. No program is named but through what is imported. -/
import Derived.Test.YtkbajhiahpkgiaaGreatPq
import Derived.Test.YtkbajhiahpkgiaaGreatFr
import Derived.Test.YtkbajhiahpkgiaaGreatPz
namespace Go.Proofs.YtkbajhiahpkgiaaGreat
open Go.RowKit Sx

theorem flat12 : ∀ L : List (List PlaceV), (∀ c ∈ L, (block1 c).length ≤ 12 * c.length) → (L.flatMap block1).length ≤ 12 * L.flatten.length
  | [], _ => by simp
  | a :: L, h => by
    have h1 := h a List.mem_cons_self
    have h2 := flat12 L fun z hz => h z (List.mem_cons_of_mem _ hz)
    rw [List.flatMap_cons, List.flatten_cons, List.length_append, List.length_append]; omega
theorem chunk12 {a0 : PlaceV} {l : List PlaceV} (h : chainP a0 l = true) : ∀ c ∈ chunks l, (block1 c).length ≤ 12 * c.length := by
  intro c hc
  obtain ⟨hn, a, ha⟩ := (chunks_all _ l a0 (Nat.le_refl _) h).2 c hc
  have h1 := chain_ge c a ha
  have hp : 0 ≤ (c.headD default).doc := (chunk_ok h c hc).2.1
  exact blockB_le c ⟨(c.headD default).doc, -1⟩ (fun p hp => (h1 p hp).2) hp (Int.le_refl _)
theorem postB_24 {x : PostP} (h : postOk x = true) (hl : x.2.length ≤ 10000) : (postB x).length ≤ 9 + 24 * x.2.length := by
  obtain ⟨hc, h3, hne⟩ := postOk_chain h
  have h1 := headsB_le (chunks x.2) 0 (chunk_ok hc) (Int.le_refl _)
  have h2 := flat12 (chunks x.2) (chunk12 hc)
  rw [(chunks_all _ x.2 _ (Nat.le_refl _) hc).1] at h2
  have h4 := septs_len6 (n := x.2.length) (by unfold maxNum; omega)
  have h5 : (chunks x.2).length = (x.2.length + 63) / 64 := chunks_len
  have h6 := List.length_pos_iff.2 hne
  unfold postB
  rw [List.length_append, List.length_append, List.length_append]
  omega
def sizeQ (ps : List PostP) : Nat := (ps.map fun x => 1 + x.1.length + x.2.length).sum
theorem putB_24 : ∀ ps : List PostP, (∀ x ∈ ps, postOk x = true ∧ x.2.length ≤ 10000) → (ps.flatMap fun x => texts (postB x)).length ≤ 24 * sizeQ ps
  | [], _ => by simp [sizeQ]
  | x :: ps, h => by
    obtain ⟨h1, h2⟩ := h x List.mem_cons_self
    have ih := putB_24 ps fun y hy => h y (List.mem_cons_of_mem _ hy)
    have h3 := postB_24 h1 h2
    have h4 := (postOk_chain h1).2.1
    have h5 := septs_len6 (n := (postB x).length) (by unfold maxNum; omega)
    rw [List.flatMap_cons, List.length_append]
    unfold sizeQ at ih ⊢
    rw [List.map_cons, List.sum_cons]
    unfold texts at ih ⊢
    rw [List.length_append]
    omega
theorem sizeQ_un (xs : List PostV) : sizeQ (xs.map unP) = sizeP xs := by unfold sizeQ sizeP; rw [List.map_map]; rfl
theorem sizeP_ge : ∀ xs : List PostV, xs.length ≤ sizeP xs ∧ ∀ x ∈ xs, x.gram.length ≤ sizeP xs ∧ x.pl.length ≤ sizeP xs
  | [] => ⟨Nat.le_refl _, fun x hx => by cases hx⟩
  | y :: xs => by
    obtain ⟨h1, h2⟩ := sizeP_ge xs
    unfold sizeP at h1 h2 ⊢
    rw [List.map_cons, List.sum_cons]
    refine ⟨by rw [List.length_cons]; omega, fun x hx => ?_⟩
    rcases List.mem_cons.1 hx with rfl | hx
    · omega
    · have := h2 x hx; omega
/-- The places that are wanted. -/
def wantP (xs : List PostV) (g : List UInt8) (d : Int) : List PlaceV := xs.flatMap fun x => x.pl.filter fun p => decide (x.gram = g) && decide (d ≤ p.doc)
theorem wantP_eq (xs : List PostV) (g : List UInt8) (d : Int) : wantP xs g d = fromP (xs.map unP) g d := by
  unfold wantP fromP; rw [List.flatMap_map]; rfl
theorem wantP_len : ∀ (xs : List PostV) (g : List UInt8) (d : Int), (wantP xs g d).length ≤ sizeP xs
  | [], _, _ => by simp [wantP]
  | x :: xs, g, d => by
    have ih := wantP_len xs g d
    unfold wantP sizeP at ih ⊢
    rw [List.flatMap_cons, List.length_append, List.map_cons, List.sum_cons]
    have := List.length_filter_le (fun p => decide (x.gram = g) && decide (d ≤ p.doc)) x.pl
    omega
theorem wantP_snoc {xs : List PostV} {k : Nat} (h : k < xs.length) (g : List UInt8) (d : Int) : wantP (xs.take (k + 1)) g d = wantP (xs.take k) g d ++ (xs.getD k default).pl.filter fun p => decide ((xs.getD k default).gram = g) && decide (d ≤ p.doc) := by
  unfold wantP
  rw [take_getD (d := default) h, List.flatMap_append]
  simp
theorem filt_snoc {l : List PlaceV} {k : Nat} (h : k < l.length) (q : PlaceV → Bool) : (l.take (k + 1)).filter q = (l.take k).filter q ++ (if q (l.getD k default) then [l.getD k default] else []) := by
  rw [take_getD (d := default) h, List.filter_append]
  congr 1
  simp [List.filter_cons]
end Go.Proofs.YtkbajhiahpkgiaaGreat
