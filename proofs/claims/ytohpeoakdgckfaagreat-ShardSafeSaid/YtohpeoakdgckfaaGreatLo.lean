
/- mudlarkkit.LentPostings, KeptPostings: their contracts. -/
import Derived.Test.YtohpeoakdgckfaaGreatPu
import Derived.ArgAppend
import Derived.Deep.Upon
import Derived.Test.YtohpeoakdgckfaaGreatRp
import Derived.Test.YtohpeoakdgckfaaGreatSx
import Derived.Test.YtohpeoakdgckfaaGreatPf
namespace Go.Proofs.YtohpeoakdgckfaaGreat
open Go.RowKit
namespace Sx

/-- u was grown out of v: in v's block, behind v's end, or in one of its own. -/
def Two (E : TypeId) (sz : Nat) (v : Value) (n : Nat) (xs : List Value) (u : Value) (m : Nat) (ys : List Value) : Ch := fun h =>
  (∃ b cap cur, v = .slice (some ⟨b, 0, none⟩) n cap ∧ u = .slice (some ⟨b, 0, none⟩) m cap ∧ n ≤ m ∧ m ≤ cap ∧ cap ≤ maxLen ∧ h = one b (.cells cur E (0, 0)) ∧ cur.size = cap * sz ∧ cur.toList.take (n * sz) = xs ∧ cur.toList.take (m * sz) = ys) ∨
  all [RowC E sz v n xs, RowC E sz u m ys] h
variable {P : Program} {l : Option Nat} {r : Hp} {Q : Exit → St} {K : St} {t : List Value} {H : List Ch} {d : Option Tmp} {ty : TypeId} {pos : String} {af : Array Edge} {gd : Option (Nat × Bool)}
/-- What was grown is let go. -/
theorem Two.first {E : TypeId} {sz n m : Nat} {v u : Value} {xs ys : List Value} {h : Hp} (hT : Two E sz v n xs u m ys h) : ∃ g k, dj g k ∧ h = un g k ∧ RowC E sz v n xs g := by
  rcases hT with ⟨b, cap, cur, rfl, rfl, h0, h1, h2, rfl, h3, h4, h5⟩ | ⟨g, k, d, rfl, hA, _⟩
  · refine ⟨_, emp, dj_emp, un_emp.symm, ?_, .inr ⟨b, cap, cur, rfl, rfl, by omega, h2, h3, h4⟩⟩
    rw [← h4, List.length_take, Array.length_toList, h3]
    exact Nat.min_eq_left (Nat.mul_le_mul_right _ (by omega))
  · exact ⟨g, k, d, rfl, hA⟩
/-- What an alternative of the walk asks of the operation ahead of dearer steps. -/
theorem swo_isCall {P : Program} {l : Option Nat} {r : Hp} {K : St} {t : List Value} {H : List Ch} {d : Option Tmp} {ty : TypeId} {pos : String} {af : Array Edge} {gd : Option (Nat × Bool)} {a : Array Operand} {b : Array TypeId} (f : FuncId) (h : SWo P l r ⟨d, .call { callee := .value (.func f), args := a, argTypes := b }, ty, pos, af, gd⟩ K t H) : SWo P l r ⟨d, .call { callee := .value (.func f), args := a, argTypes := b }, ty, pos, af, gd⟩ K t H := h
theorem swo_isApp {P : Program} {l : Option Nat} {r : Hp} {K : St} {t : List Value} {H : List Ch} {d : Option Tmp} {ty : TypeId} {pos : String} {af : Array Edge} {gd : Option (Nat × Bool)} {a : Array Operand} {b : Array TypeId} (h : SWo P l r ⟨d, .call { callee := .builtin .append, args := a, argTypes := b }, ty, pos, af, gd⟩ K t H) : SWo P l r ⟨d, .call { callee := .builtin .append, args := a, argTypes := b }, ty, pos, af, gd⟩ K t H := h
/-! A family of pieces, of which those below k were turned. -/
end Sx
end Go.Proofs.YtohpeoakdgckfaaGreat

namespace Go.Proofs.YtohpeoakdgckfaaGreat
open Go.RowKit
namespace Sx

/-- An owned row whose cells can all be written, marked or not. -/
def RowM (E : TypeId) (sz : Nat) (v : Value) (n : Nat) (xs : List Value) : Ch := fun h =>
  xs.length = n * sz ∧ ((v = .slice none 0 0 ∧ n = 0 ∧ h = emp) ∨ ∃ g cap cur fz, v = .slice (some ⟨g, 0, none⟩) n cap ∧ h = one g (.cells cur E fz) ∧ n ≤ cap ∧ cap ≤ maxLen ∧ cur.size = cap * sz ∧ cur.toList.take (n * sz) = xs ∧ ∀ j, j < cur.size → ¬ (fz.1 ≤ j ∧ j < fz.2))
theorem RowM.of {E : TypeId} {sz n : Nat} {v : Value} {xs : List Value} {h : Hp} (e : RowC E sz v n xs h) : RowM E sz v n xs h := by
  refine ⟨e.1, ?_⟩
  rcases e.2 with h1 | ⟨g, cap, cur, h1, h2, h3, h4, h5, h6⟩
  · exact .inl h1
  · exact .inr ⟨g, cap, cur, (0, 0), h1, h2, h3, h4, h5, h6, fun j _ h => by have := h.2; omega⟩
theorem RowM.sl {E : TypeId} {sz n : Nat} {v : Value} {xs : List Value} {g r : Hp} (h : RowM E sz v n xs g) (hs : sub g r) : Sl r sz v n xs := by
  rcases h.2 with ⟨rfl, rfl, rfl⟩ | ⟨b, cap, cur, fz, rfl, rfl, h1, h2, h3, h4, _⟩
  · exact ⟨h.1, Nat.zero_le _, .inl ⟨⟨none, rfl⟩, rfl⟩⟩
  · refine ⟨h.1, Nat.le_trans h1 h2, .inr ⟨b, 0, cap, cur, E, fz, rfl, h1, hs _ _ one_same, fun j hj => ?_⟩⟩
    rw [Nat.zero_add, ← Array.getElem?_toList]
    have e : (cur.toList.take (n * sz))[j]? = some xs[j] := by rw [h4]; exact List.getElem?_eq_getElem hj
    rw [List.getElem?_take] at e
    split at e
    · exact e
    · cases e
section
variable {P : Program} {l : Option Nat} {r : Hp} {Q : Exit → St} {K : St} {t : List Value} {H : List Ch} {d : Option Tmp} {ty : TypeId} {pos : String} {af : Array Edge} {gd : Option (Nat × Bool)}
end
end Sx
end Go.Proofs.YtohpeoakdgckfaaGreat

namespace Go.Proofs.YtohpeoakdgckfaaGreat
open Go.RowKit
namespace Sx

section
variable {P : Program} {l : Option Nat} {r : Hp} {Q : Exit → St} {K : St} {t : List Value} {H : List Ch} {d : Option Tmp} {ty : TypeId} {pos : String} {af : Array Edge} {gd : Option (Nat × Bool)}
end
end Sx
end Go.Proofs.YtohpeoakdgckfaaGreat

namespace Go.Proofs.YtohpeoakdgckfaaGreat
open Go.RowKit Sx

def markN (k i : Nat) : Nat := 1000003 * (k + 7) + i
def markB (k i : Nat) : UInt8 := UInt8.ofNat (markN k i * 11400714819323198485 % 18446744073709551616 / 72057594037927936)
/-- A text's mark. -/
def markT (k i : Nat) : List UInt8 := [35, UInt8.ofNat k, UInt8.ofNat (k / 256), UInt8.ofNat (k / 65536), 47, UInt8.ofNat i, UInt8.ofNat (i / 256), UInt8.ofNat (i / 65536)]
/-- The marks behind a lent slice. -/
def marksL (n : Nat) : List UInt8 := (List.range n).map (markB 1)
end Go.Proofs.YtohpeoakdgckfaaGreat

namespace Go.Proofs.YtohpeoakdgckfaaGreat
open Go.RowKit Sx

/-- A slice of bytes, written out. -/
structure RowV where
  a : Option Addr
  c : Nat
  l : List UInt8
def RowV.val (x : RowV) : Value := .slice x.a x.l.length x.c
end Go.Proofs.YtohpeoakdgckfaaGreat

namespace Go.Proofs.YtohpeoakdgckfaaGreat
open Go.RowKit Sx

def Wide (r : Hp) (v : Value) (l : List UInt8) : Prop := ∃ a c, v = .slice a l.length c ∧ l.length + 12 ≤ c ∧ Sl r 1 (.slice a (l.length + 12) c) (l.length + 12) (u8s (l ++ marksL 12))
theorem Sl.narrow {r : Hp} {sz n m c : Nat} {a : Option Addr} {xs : List Value} (h : Sl r sz (.slice a n c) n xs) (hm : m ≤ n) : Sl r sz (.slice a m c) m (xs.take (m * sz)) := by
  have h1 := h.1
  have h2 := h.2.1
  have hms : m * sz ≤ n * sz := Nat.mul_le_mul_right _ hm
  refine ⟨by simp; omega, by omega, ?_⟩
  rcases h.2.2 with ⟨e, rfl⟩ | ⟨b, off, cap, cc, E, fz, e, h3, h4, h5⟩
  · obtain ⟨a', e⟩ := e
    injection e with e1 e2 e3; subst e1; subst e3
    left; obtain rfl : m = 0 := by omega
    exact ⟨⟨a, rfl⟩, rfl⟩
  · injection e with e1 e2 e3; subst e1; subst e3
    refine .inr ⟨b, off, _, cc, E, fz, rfl, by omega, h4, fun j hj => ?_⟩
    simp only [List.length_take] at hj
    rw [h5 j (by omega)]; simp
theorem Wide.sl {r : Hp} {v : Value} {l : List UInt8} (h : Wide r v l) : U8S r v l := by
  obtain ⟨a, c, rfl, hc, hs⟩ := h
  have := Sl.narrow (m := l.length) hs (by omega)
  unfold U8S; rw [show (u8s (l ++ marksL 12)).take (l.length * 1) = u8s l by simp [u8s]] at this; exact this
theorem Wide.mono {r r' : Hp} {v : Value} {l : List UInt8} (h : Wide r v l) (hr : sub r r') : Wide r' v l := by
  obtain ⟨a, c, e, hc, hs⟩ := h; exact ⟨a, c, e, hc, hs.mono hr⟩
theorem Wide.of {l : List UInt8} {a : Option Addr} {c : Nat} {g r : Hp} (h : RowC 5 1 (.slice a (l.length + 12) c) (l.length + 12) (u8s (l ++ marksL 12)) g) (hs : sub g r) : Wide r (.slice a l.length c) l :=
  ⟨a, c, rfl, (RowC.cap h).1, h.sl hs⟩
end Go.Proofs.YtohpeoakdgckfaaGreat

namespace Go.Proofs.YtohpeoakdgckfaaGreat
open Go.RowKit Sx

set_option maxHeartbeats 1000000 in
theorem sameFile_any (r : Hp) (f g : FileV) (hf : U8S r f.val f.data) (hg : U8S r g.val g.data) : Tri Tryz.prog r 48 [.agg (encF f).toArray, .agg (encF g).toArray] [] fun u H => u = .bool (decide (f.path = g.path) && decide (f.data = g.data)) ∧ H = [] := by
  refine Tri.free2 fun R HR => ?_
  unfold encF
  refine fn_of_sw Tryz.func48 rfl _ rfl ?_; refine aen Tryz.ntmps48 ?_
  repeat' (first | refine aw0m ?_ | (refine ap2 ?_ ?_ <;> try intro h) | (refine acl Tryz.func12 ?_; refine acr (sameBytes_any r f.val g.val f.data g.data hf hg) ?_; rintro v' H' ⟨rfl, rfl⟩; all_goals refine apl ?_) | refine aw1m ?_ | (refine abx ?_; intro bb) | (refine abz ?_; intro bz) | (refine ahv ?_; intro v' hv') | (refine aac ?_; intro ac cc) | refine aw2 ?_ | (refine ap4 ?_ ?_ <;> try intro h) | apply True.intro)
  · ((with_reducible apply fp_ret); exact res_1 rfl rfl)
    exact HR.out _ _ _ [] (by (exact atks)) ⟨by rw [decide_eq_true h]; simp, rfl⟩
  · ((with_reducible apply fp_ret); exact res_1 rfl rfl)
    exact HR.out _ _ _ [] (by (exact atks)) ⟨by rw [decide_eq_false h]; simp, rfl⟩
theorem DocV.ext' {a b : DocV} (h1 : a.path = b.path) (h2 : a.lang = b.lang) (h3 : a.sum = b.sum) (h4 : a.size = b.size) : a = b := by
  cases a; cases b; simp_all
end Go.Proofs.YtohpeoakdgckfaaGreat

namespace Go.Proofs.YtohpeoakdgckfaaGreat
open Go.RowKit Sx

def markPl (k i : Nat) : PlaceV := ⟨0, markN k i⟩
def marksPl (n : Nat) : List PlaceV := (List.range n).map (markPl 1)
theorem encPl_one (l : List PlaceV) : (l.flatMap encPl).all one? = true := by
  rw [List.all_eq_true]
  intro v hv
  obtain ⟨p, _, hp⟩ := List.mem_flatMap.1 hv
  simp only [encPl, List.mem_cons, List.not_mem_nil, or_false] at hp
  rcases hp with rfl | rfl <;> rfl
end Go.Proofs.YtohpeoakdgckfaaGreat

namespace Go.Proofs.YtohpeoakdgckfaaGreat
open Go.RowKit Sx

end Go.Proofs.YtohpeoakdgckfaaGreat

namespace Go.Proofs.YtohpeoakdgckfaaGreat
open Go.RowKit Sx

theorem map_getD {xs : List PostV} {k : Nat} (h : k < xs.length) : (xs.map unP).getD k default = unP (xs.getD k default) := by
  rw [List.getD_eq_getElem?_getD, List.getD_eq_getElem?_getD, List.getElem?_map, List.getElem?_eq_getElem h]; rfl
end Go.Proofs.YtohpeoakdgckfaaGreat

namespace Go.Proofs.YtohpeoakdgckfaaGreat
open Go.RowKit Sx

theorem marksPl_len (n : Nat) : (marksPl n).length = n := by simp [marksPl]
end Go.Proofs.YtohpeoakdgckfaaGreat

namespace Go.Proofs.YtohpeoakdgckfaaGreat
open Go.RowKit Sx

/-- A posting whose places were lent, with marks behind them. -/
structure LpV where
  gram : List UInt8
  a : Option Addr
  c : Nat
  pl : List PlaceV
  deriving Inhabited
def wideP (x : LpV) : Ch := RowC 149 2 (.slice x.a (x.pl.length + 12) x.c) (x.pl.length + 12) ((x.pl ++ marksPl 12).flatMap encPl)
def WideP (r : Hp) (x : LpV) : Prop := x.pl.length + 12 ≤ x.c ∧ Els r 2 encPl (.slice x.a (x.pl.length + 12) x.c) (x.pl ++ marksPl 12)
theorem WideP.of {x : LpV} {g r : Hp} (h : wideP x g) (hs : sub g r) : WideP r x :=
  ⟨(RowC.cap h).1, ⟨fun _ => rfl, by rw [List.length_append, marksPl_len]; exact h.sl hs⟩⟩
theorem WideP.mono {r r' : Hp} {x : LpV} (h : WideP r x) (hr : sub r r') : WideP r' x := ⟨h.1, h.2.mono hr⟩
end Go.Proofs.YtohpeoakdgckfaaGreat
