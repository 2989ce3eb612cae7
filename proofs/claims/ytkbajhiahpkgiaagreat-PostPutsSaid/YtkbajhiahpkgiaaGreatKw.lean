
/- mudlarkkit: bytes that were lent with marks behind them, read; KeptBytes: its contract. -/
import Derived.Test.YtkbajhiahpkgiaaGreatKi
namespace Go.Proofs.YtkbajhiahpkgiaaGreat
open Go.RowKit Sx

theorem Sl.narrow {r : Hp} {sz n m c : Nat} {a : Option Addr} {xs : List Value} (h : Sl r sz (.slice a n c) n xs) (hm : m ≤ n) : Sl r sz (.slice a m c) m (xs.take (m * sz)) := by
  have h1 := h.1
  have h2 := h.2.1
  have hms : m * sz ≤ n * sz := Nat.mul_le_mul_right _ hm
  refine ⟨by simp; omega, by omega, ?_⟩
  rcases h.2.2 with ⟨e, rfl⟩ | ⟨b, off, cap, cc, E, fz, e, h3, h4, h5⟩
  · obtain ⟨a', e⟩ := e
    injection e with e1 e2 e3; subst e1; subst e3
    left; obtain rfl : m = 0 := by omega
    exact ⟨⟨a, rfl⟩, rfl⟩
  · injection e with e1 e2 e3; subst e1; subst e3
    refine .inr ⟨b, off, _, cc, E, fz, rfl, by omega, h4, fun j hj => ?_⟩
    simp only [List.length_take] at hj
    rw [h5 j (by omega)]; simp
end Go.Proofs.YtkbajhiahpkgiaaGreat
