
/- mudlarkkit: bytes that were lent with marks behind them, read; KeptBytes: its contract. -/
import Derived.Test.YtkbajhiahpkgiaaGreatKi
namespace Go.Proofs.YtkbajhiahpkgiaaGreat
open Go.RowKit Sx

def Wide (r : Hp) (v : Value) (l : List UInt8) : Prop := ∃ a c, v = .slice a l.length c ∧ l.length + 12 ≤ c ∧ Sl r 1 (.slice a (l.length + 12) c) (l.length + 12) (u8s (l ++ marksL 12))
theorem Sl.narrow {r : Hp} {sz n m c : Nat} {a : Option Addr} {xs : List Value} (h : Sl r sz (.slice a n c) n xs) (hm : m ≤ n) : Sl r sz (.slice a m c) m (xs.take (m * sz)) := by
  have h1 := h.1
  have h2 := h.2.1
  have hms : m * sz ≤ n * sz := Nat.mul_le_mul_right _ hm
  refine ⟨by simp; omega, by omega, ?_⟩
  rcases h.2.2 with ⟨e, rfl⟩ | ⟨b, off, cap, cc, E, fz, e, h3, h4, h5⟩
  · obtain ⟨a', e⟩ := e
    injection e with e1 e2 e3; subst e1; subst e3
    left; obtain rfl : m = 0 := by omega
    exact ⟨⟨a, rfl⟩, rfl⟩
  · injection e with e1 e2 e3; subst e1; subst e3
    refine .inr ⟨b, off, _, cc, E, fz, rfl, by omega, h4, fun j hj => ?_⟩
    simp only [List.length_take] at hj
    rw [h5 j (by omega)]; simp
theorem Wide.sl {r : Hp} {v : Value} {l : List UInt8} (h : Wide r v l) : U8S r v l := by
  obtain ⟨a, c, rfl, hc, hs⟩ := h
  have := Sl.narrow (m := l.length) hs (by omega)
  unfold U8S; rw [show (u8s (l ++ marksL 12)).take (l.length * 1) = u8s l by simp [u8s]] at this; exact this
theorem Wide.mono {r r' : Hp} {v : Value} {l : List UInt8} (h : Wide r v l) (hr : sub r r') : Wide r' v l := by
  obtain ⟨a, c, e, hc, hs⟩ := h; exact ⟨a, c, e, hc, hs.mono hr⟩
theorem Wide.of {l : List UInt8} {a : Option Addr} {c : Nat} {g r : Hp} (h : RowC 5 1 (.slice a (l.length + 12) c) (l.length + 12) (u8s (l ++ marksL 12)) g) (hs : sub g r) : Wide r (.slice a l.length c) l :=
  ⟨a, c, rfl, (RowC.cap h).1, h.sl hs⟩
theorem keptW_any (r : Hp) (v w : Value) (l : List UInt8) (hv : Wide r v l) (hw : U8S r w l) : Tri Tryz.prog r 21 [v, w] [] fun u H => u = .bool true ∧ H = [] := by
  obtain ⟨a, c, rfl, hc, hs⟩ := hv
  exact keptBytes_any r a c w l hc (by unfold U8S; rw [show (l ++ marksL 12).length = l.length + 12 by simp [marksL]]; exact hs) hw
end Go.Proofs.YtkbajhiahpkgiaaGreat
