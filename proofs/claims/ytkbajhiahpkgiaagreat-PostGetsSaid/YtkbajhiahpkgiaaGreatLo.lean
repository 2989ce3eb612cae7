
/- mudlarkkit.LentPostings, KeptPostings: their contracts. -/
import Derived.Test.YtkbajhiahpkgiaaGreatLt
import Derived.Test.YtkbajhiahpkgiaaGreatKw
namespace Go.Proofs.YtkbajhiahpkgiaaGreat
open Go.RowKit Sx

/-- A posting whose places were lent, with marks behind them. -/
structure LpV where
  gram : List UInt8
  a : Option Addr
  c : Nat
  pl : List PlaceV
  deriving Inhabited
def wideP (x : LpV) : Ch := RowC 56 2 (.slice x.a (x.pl.length + 12) x.c) (x.pl.length + 12) ((x.pl ++ marksPl 12).flatMap encPl)
def WideP (r : Hp) (x : LpV) : Prop := x.pl.length + 12 ≤ x.c ∧ Els r 2 encPl (.slice x.a (x.pl.length + 12) x.c) (x.pl ++ marksPl 12)
def markPo (k i : Nat) : PostV := ⟨markT k i, .slice none 0 0, []⟩
theorem WideP.of {x : LpV} {g r : Hp} (h : wideP x g) (hs : sub g r) : WideP r x :=
  ⟨(RowC.cap h).1, ⟨fun _ => rfl, by rw [List.length_append, marksPl_len]; exact h.sl hs⟩⟩
theorem WideP.mono {r r' : Hp} {x : LpV} (h : WideP r x) (hr : sub r r') : WideP r' x := ⟨h.1, h.2.mono hr⟩
theorem els_nil (r : Hp) : Els r 2 encPl (.slice none 0 0) [] := ⟨fun _ => rfl, by
  have := (RowC.nil 56 2 : RowC 56 2 (.slice none 0 0) 0 [] emp).sl (r := r) (fun b o e => by cases e)
  exact this⟩
end Go.Proofs.YtkbajhiahpkgiaaGreat
