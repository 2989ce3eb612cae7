
/- mudlarkkit: Same, Lent, Kept of files; SameDocs; FilesOf: their contracts. -/
import Derived.Test.YtmnehdpclnhmbaaEl
import Derived.Test.YtmnehdpclnhmbaaPu
import Derived.Test.YtmnehdpclnhmbaaSx
namespace Go.Proofs.Ytmnehdpclnhmbaa
open Go.RowKit Sx

def markN (k i : Nat) : Nat := 1000003 * (k + 7) + i
def markB (k i : Nat) : UInt8 := UInt8.ofNat (markN k i * 11400714819323198485 % 18446744073709551616 / 72057594037927936)
/-- The marks behind a lent slice. -/
def marksL (n : Nat) : List UInt8 := (List.range n).map (markB 1)
end Go.Proofs.Ytmnehdpclnhmbaa

namespace Go.Proofs.Ytmnehdpclnhmbaa
open Go.RowKit Sx

def Wide (r : Hp) (v : Value) (l : List UInt8) : Prop := ∃ a c, v = .slice a l.length c ∧ l.length + 12 ≤ c ∧ Sl r 1 (.slice a (l.length + 12) c) (l.length + 12) (u8s (l ++ marksL 12))
theorem Sl.narrow {r : Hp} {sz n m c : Nat} {a : Option Addr} {xs : List Value} (h : Sl r sz (.slice a n c) n xs) (hm : m ≤ n) : Sl r sz (.slice a m c) m (xs.take (m * sz)) := by
  have h1 := h.1
  have h2 := h.2.1
  have hms : m * sz ≤ n * sz := Nat.mul_le_mul_right _ hm
  refine ⟨by simp; omega, by omega, ?_⟩
  rcases h.2.2 with ⟨e, rfl⟩ | ⟨b, off, cap, cc, E, fz, e, h3, h4, h5⟩
  · obtain ⟨a', e⟩ := e
    injection e with e1 e2 e3; subst e1; subst e3
    left; obtain rfl : m = 0 := by omega
    exact ⟨⟨a, rfl⟩, rfl⟩
  · injection e with e1 e2 e3; subst e1; subst e3
    refine .inr ⟨b, off, _, cc, E, fz, rfl, by omega, h4, fun j hj => ?_⟩
    simp only [List.length_take] at hj
    rw [h5 j (by omega)]; simp
theorem Wide.sl {r : Hp} {v : Value} {l : List UInt8} (h : Wide r v l) : U8S r v l := by
  obtain ⟨a, c, rfl, hc, hs⟩ := h
  have := Sl.narrow (m := l.length) hs (by omega)
  unfold U8S; rw [show (u8s (l ++ marksL 12)).take (l.length * 1) = u8s l by simp [u8s]] at this; exact this
theorem Wide.mono {r r' : Hp} {v : Value} {l : List UInt8} (h : Wide r v l) (hr : sub r r') : Wide r' v l := by
  obtain ⟨a, c, e, hc, hs⟩ := h; exact ⟨a, c, e, hc, hs.mono hr⟩
theorem Wide.of {l : List UInt8} {a : Option Addr} {c : Nat} {g r : Hp} (h : RowC 5 1 (.slice a (l.length + 12) c) (l.length + 12) (u8s (l ++ marksL 12)) g) (hs : sub g r) : Wide r (.slice a l.length c) l :=
  ⟨a, c, rfl, (RowC.cap h).1, h.sl hs⟩
end Go.Proofs.Ytmnehdpclnhmbaa

namespace Go.Proofs.Ytmnehdpclnhmbaa
open Go.RowKit Sx

set_option maxHeartbeats 1000000 in
theorem sameFile_any (r : Hp) (f g : FileV) (hf : U8S r f.val f.data) (hg : U8S r g.val g.data) : Tri Try.prog r 19 [.agg (encF f).toArray, .agg (encF g).toArray] [] fun u H => u = .bool (decide (f.path = g.path) && decide (f.data = g.data)) ∧ H = [] := by
  refine Tri.free2 fun R HR => ?_
  unfold encF
  refine fn_of_sw Try.func19 rfl _ rfl ?_; refine aen Try.ntmps19 ?_
  repeat' (first | refine aw0m ?_ | (refine ap2 ?_ ?_ <;> try intro h) | (refine acl Try.func46 ?_; refine acr (sameBytes_any r f.val g.val f.data g.data hf hg) ?_; rintro v' H' ⟨rfl, rfl⟩; all_goals refine apl ?_) | refine aw1m ?_ | (refine abx ?_; intro bb) | (refine abz ?_; intro bz) | (refine ahv ?_; intro v' hv') | (refine aac ?_; intro ac cc) | refine aw2 ?_ | (refine ap4 ?_ ?_ <;> try intro h) | apply True.intro)
  · ((with_reducible apply fp_ret); exact res_1 rfl rfl)
    exact HR.out _ _ _ [] (by (exact atks)) ⟨by rw [decide_eq_true h]; simp, rfl⟩
  · ((with_reducible apply fp_ret); exact res_1 rfl rfl)
    exact HR.out _ _ _ [] (by (exact atks)) ⟨by rw [decide_eq_false h]; simp, rfl⟩
theorem DocV.ext' {a b : DocV} (h1 : a.path = b.path) (h2 : a.lang = b.lang) (h3 : a.sum = b.sum) (h4 : a.size = b.size) : a = b := by
  cases a; cases b; simp_all
end Go.Proofs.Ytmnehdpclnhmbaa
