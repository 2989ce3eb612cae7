
/- wire: septets, fits, the Writer: their contracts. wire.Writer.Number: its contract. slices.Clone of bytes; wire.Writer.Fixed, Text, Bytes: their contracts. -/
import Derived.Test.YtgodcegaffgfjaaDoorAp
import Derived.Test.YtgodcegaffgfjaaDoorTy
import Derived.Test.YtgodcegaffgfjaaDoorProg
import Derived.Test.YtgodcegaffgfjaaDoorSx
import Derived.Test.YtgodcegaffgfjaaDoorBits
import Derived.WalkSpells
import Derived.WalkLawsBesides
import Derived.ProofKit
namespace Go.Proofs.YtgodcegaffgfjaaDoor
open Go.RowKit Sx

attribute [local go_sem] Oper.semAt_some

end Go.Proofs.YtgodcegaffgfjaaDoor

namespace Go.Proofs.YtgodcegaffgfjaaDoor
open Go.RowKit Sx

attribute [local go_sem] Oper.semAt_some

end Go.Proofs.YtgodcegaffgfjaaDoor

namespace Go.Proofs.YtgodcegaffgfjaaDoor
open Go.RowKit Sx

attribute [local go_sem] Oper.semAt_some

abbrev U8R (v : Value) (l : List UInt8) : Ch := RowC 5 1 v l.length (u8s l)
abbrev U8S (r : Hp) (v : Value) (l : List UInt8) : Prop := Sl r 1 v l.length (u8s l)

theorem Sl.news {r : Hp} {n c : Nat} {a : Addr} {xs : List Value} (h : Sl r 1 (.slice (some a) n c) n xs) (H : List Ch) : ∀ j u, xs[j]? = some u → Rd1 r H (a.add j) u := by
  intro j u hu
  obtain ⟨hj, rfl⟩ := List.getElem?_eq_some_iff.1 hu
  have hjn : j < n := by have := h.1; omega
  obtain ⟨b, off, u', e, h1, h2⟩ := h.at1 hjn
  cases e
  rw [add_none]
  rw [List.getElem?_eq_getElem hj] at h1
  cases h1
  exact h2 H

def kk : Nat → Int
  | 0 => 24
  | 1 => 16
  | 2 => 8
  | 3 => 0
  | _ => -8
end Go.Proofs.YtgodcegaffgfjaaDoor
