
/- wire: septets, fits, the Writer: their contracts. wire.Writer.Number: its contract. slices.Clone of bytes; wire.Writer.Fixed, Text, Bytes: their contracts. -/
import Derived.Test.YtgodcegaffgfjaaGreatDoorAp
import Derived.Test.YtgodcegaffgfjaaGreatDoorTy
import Derived.Test.YtgodcegaffgfjaaGreatDoorProg
import Derived.Test.YtgodcegaffgfjaaGreatDoorSx
import Derived.Test.YtgodcegaffgfjaaGreatDoorBits
import Derived.WalkSpells
import Derived.WalkLawsBesides
import Derived.ProofKit
namespace Go.Proofs.YtgodcegaffgfjaaGreatDoor
open Go.RowKit Sx

attribute [local go_sem] Oper.semAt_some

end Go.Proofs.YtgodcegaffgfjaaGreatDoor

namespace Go.Proofs.YtgodcegaffgfjaaGreatDoor
open Go.RowKit Sx

attribute [local go_sem] Oper.semAt_some

end Go.Proofs.YtgodcegaffgfjaaGreatDoor

namespace Go.Proofs.YtgodcegaffgfjaaGreatDoor
open Go.RowKit Sx

attribute [local go_sem] Oper.semAt_some

theorem u8s_one (l : List UInt8) : (u8s l).all one? = true := by simp [u8s, List.all_eq_true, one?]
theorem Sl.news {r : Hp} {n c : Nat} {a : Addr} {xs : List Value} (h : Sl r 1 (.slice (some a) n c) n xs) (H : List Ch) : ∀ j u, xs[j]? = some u → Rd1 r H (a.add j) u := by
  intro j u hu
  obtain ⟨hj, rfl⟩ := List.getElem?_eq_some_iff.1 hu
  have hjn : j < n := by have := h.1; omega
  obtain ⟨b, off, u', e, h1, h2⟩ := h.at1 hjn
  cases e
  rw [add_none]
  rw [List.getElem?_eq_getElem hj] at h1
  cases h1
  exact h2 H

end Go.Proofs.YtgodcegaffgfjaaGreatDoor
