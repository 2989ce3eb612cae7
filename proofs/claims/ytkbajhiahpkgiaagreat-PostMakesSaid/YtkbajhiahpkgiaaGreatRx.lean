
/- mudlarkref02.Writer: Number, Text, Fixed: their contracts. mudlarkref02.Writer.Number at bytes that may be marked: its contract. -/
import Derived.Test.YtkbajhiahpkgiaaGreatKi
import Derived.Test.YtkbajhiahpkgiaaGreatWe
import Derived.Test.YtkbajhiahpkgiaaGreatTw
namespace Go.Proofs.YtkbajhiahpkgiaaGreat
open Go.RowKit Sx

end Go.Proofs.YtkbajhiahpkgiaaGreat

namespace Go.Proofs.YtkbajhiahpkgiaaGreat
open Go.RowKit
namespace Sx
section
variable {P : Program} {l : Option Nat} {r : Hp} {Q : Exit → St} {t : List Value} {H : List Ch}
/-- What a row's piece tells of its slice. -/
theorem sw_form {c : Code} {E : TypeId} {sz n : Nat} {v : Value} {xs : List Value} {H1 : List Ch} (ht : Take (RowC E sz v n xs) H H1) (h : (∃ a cap, v = .slice a n cap) → SW P l r c Q t H) : SW P l r c Q t H := fun w g ds ok al => by
  refine h ?_ w g ds ok al
  obtain ⟨x, y, dd, e, hx, hy⟩ := ht.all al
  rcases hx.2 with ⟨rfl, rfl, _⟩ | ⟨_, _, _, rfl, _⟩ <;> exact ⟨_, _, rfl⟩
end
end Sx
open Sx

end Go.Proofs.YtkbajhiahpkgiaaGreat
