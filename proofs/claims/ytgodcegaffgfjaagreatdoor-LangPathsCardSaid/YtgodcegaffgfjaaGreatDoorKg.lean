
/- Pieces joined, opened, lent to a statement; owned bytes; clear of the end of an owned row. -/
import Derived.Test.YtgodcegaffgfjaaGreatDoorTw
import Derived.Test.YtgodcegaffgfjaaGreatDoorEl
namespace Go.Proofs.YtgodcegaffgfjaaGreatDoor
open Go.RowKit
namespace Sx

section
variable {P : Program} {l : Option Nat} {r : Hp} {Q : Exit → St} {K : St} {t : List Value} {H : List Ch} {d : Option Tmp} {ty : TypeId} {pos : String} {af : Array Edge} {gd : Option (Nat × Bool)}
end
end Sx
end Go.Proofs.YtgodcegaffgfjaaGreatDoor

namespace Go.Proofs.YtgodcegaffgfjaaGreatDoor
open Go.RowKit Sx
namespace Sx
section
variable {P : Program} {l : Option Nat} {r : Hp} {Q : Exit → St} {K : St} {t : List Value} {H H1 : List Ch} {d : Option Tmp} {ty : TypeId} {pos : String} {af : Array Edge} {gd : Option (Nat × Bool)}
end
end Sx
section
variable {P : Program} {l : Option Nat} {r : Hp} {K : St} {t : List Value} {H : List Ch}
end
namespace Sx
section
variable {P : Program} {l : Option Nat} {r : Hp} {Q : Exit → St} {K : St} {t : List Value} {H : List Ch}
theorem sw_lendQ {c : Code} {A : Ch} {H1 : List Ch} (ht : Take A H H1) (h : ∀ r' g, sub r r' → sub g r' → A g → SW P l r' c (fun e t' H' => Q e t' (A :: H')) t H1) : SW P l r c Q t H := by
  intro w h0 ds ok al
  obtain ⟨g, k, d, rfl, hg, hk⟩ := ht.all al
  refine wpIn_mono (h (un r g) g (fun b o e => un_left e) (fun b o e => un_right (dj_un.1 ok.dj).1 e) hg w k ds (ok.lend d) hk) ?_
  intro e a' w' p
  cases e with
  | panic _ => exact p.elim
  | outgrown => exact p.elim
  | _ =>
    obtain ⟨t', H', k', e1, h2, al', to'⟩ := p
    obtain ⟨d', tb⟩ := To.back ok d to'
    exact ⟨t', _, _, e1, h2, ⟨g, k', d', rfl, hg, al'⟩, tb⟩

end
end Sx
end Go.Proofs.YtgodcegaffgfjaaGreatDoor
