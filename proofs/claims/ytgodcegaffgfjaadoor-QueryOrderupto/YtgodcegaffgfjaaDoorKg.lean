
/- Pieces joined, opened, lent to a statement; owned bytes; clear of the end of an owned row. -/
import Derived.Test.YtgodcegaffgfjaaDoorTw
import Derived.Test.YtgodcegaffgfjaaDoorEl
namespace Go.Proofs.YtgodcegaffgfjaaDoor
open Go.RowKit
namespace Sx

section
variable {P : Program} {l : Option Nat} {r : Hp} {Q : Exit → St} {K : St} {t : List Value} {H : List Ch} {d : Option Tmp} {ty : TypeId} {pos : String} {af : Array Edge} {gd : Option (Nat × Bool)}
end
end Sx
end Go.Proofs.YtgodcegaffgfjaaDoor

namespace Go.Proofs.YtgodcegaffgfjaaDoor
open Go.RowKit Sx
namespace Sx
section
variable {P : Program} {l : Option Nat} {r : Hp} {Q : Exit → St} {K : St} {t : List Value} {H H1 : List Ch} {d : Option Tmp} {ty : TypeId} {pos : String} {af : Array Edge} {gd : Option (Nat × Bool)}
/-- Pieces said as one. -/
theorem sw_joinA {c : Code} {As : List Ch} {D : Ch} (ht : Takes As H H1) (hj : ∀ h, all As h → D h) (h : SW P l r c Q t (D :: H1)) : SW P l r c Q t H := fun w g ds ok a => by
  have a' := all_perm ht a
  obtain ⟨x, y, dd, e, hx, hy⟩ := all_app.1 a'
  exact h w g ds ok ⟨x, y, dd, e, hj x hx, hy⟩
/-- One piece said as others, with what it hides. -/
theorem sw_open {c : Code} {ι : Type} {A : Ch} {B : ι → List Ch} {φ : ι → Prop} (ht : Take A H H1) (hA : ∀ h, A h → ∃ i, φ i ∧ all (B i) h) (h : ∀ i, φ i → SW P l r c Q t (B i ++ H1)) : SW P l r c Q t H := fun w g ds ok a => by
  obtain ⟨x, y, dd, e, hx, hy⟩ := all_perm ht a
  obtain ⟨i, hi, hb⟩ := hA x hx
  exact h i hi w g ds ok (all_app.2 ⟨x, y, dd, e, hb, hy⟩)
theorem all_one {A : Ch} {h : Hp} : all [A] h ↔ A h := by
  constructor
  · rintro ⟨x, y, _, rfl, hx, rfl⟩; rw [un_emp]; exact hx
  · intro e; exact ⟨h, emp, dj_emp, un_emp.symm, e, rfl⟩
end
end Sx
section
variable {P : Program} {l : Option Nat} {r : Hp} {K : St} {t : List Value} {H : List Ch}
end
namespace Sx
section
variable {P : Program} {l : Option Nat} {r : Hp} {Q : Exit → St} {K : St} {t : List Value} {H : List Ch}
theorem sw_lendQ {c : Code} {A : Ch} {H1 : List Ch} (ht : Take A H H1) (h : ∀ r' g, sub r r' → sub g r' → A g → SW P l r' c (fun e t' H' => Q e t' (A :: H')) t H1) : SW P l r c Q t H := by
  intro w h0 ds ok al
  obtain ⟨g, k, d, rfl, hg, hk⟩ := ht.all al
  refine wpIn_mono (h (un r g) g (fun b o e => un_left e) (fun b o e => un_right (dj_un.1 ok.dj).1 e) hg w k ds (ok.lend d) hk) ?_
  intro e a' w' p
  cases e with
  | panic _ => exact p.elim
  | outgrown => exact p.elim
  | _ =>
    obtain ⟨t', H', k', e1, h2, al', to'⟩ := p
    obtain ⟨d', tb⟩ := To.back ok d to'
    exact ⟨t', _, _, e1, h2, ⟨g, k', d', rfl, hg, al'⟩, tb⟩

end
end Sx
end Go.Proofs.YtgodcegaffgfjaaDoor
