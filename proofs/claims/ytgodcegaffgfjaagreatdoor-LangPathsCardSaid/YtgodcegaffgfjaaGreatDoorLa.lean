
/- lang.Right, lang.Of, mudlarkref06.Right, mudlarkref06.Of: their contracts in the new form. -/
import Derived.Test.YtgodcegaffgfjaaGreatDoorOf
import Derived.Test.YtgodcegaffgfjaaGreatDoorSx
namespace Go.Proofs.YtgodcegaffgfjaaGreatDoor
open Go.RowKit Sx

namespace Sx
/-- A call that turns nothing, told in the old form. -/
theorem tri_ext {P : Program} {r : Hp} {f : FuncId} {args : List Value} {v : Value} (h : ∀ w, Calls P f args.toArray w fun e w' => e = .returned v ∧ Ext Nil w w') :
    Tri P r f args [] fun u H => u = v ∧ H = [] := by
  rw [tri_iff]
  intro w g o al
  refine (h w).mono ?_
  rintro e w' ⟨rfl, hx⟩
  have hk : ∀ (b : Nat) (u : Obj), w.heap[b]? = some u → w'.heap[b]? = some u := fun b u e => by
    have hb : b < w.heap.size := (Array.getElem?_eq_some_iff.1 e).1
    rw [hx.keep b hb (fun c => c)]; exact e
  exact ⟨v, [], g, rfl, ⟨rfl, rfl⟩, al, ⟨⟨fun b u e => hk b u (o.emb b u e), fun b u e => hk b u (o.ro b u e), o.dj, o.marks.mono (fun D a b c => ⟨hk D _ a, b⟩), fun k e => (by cases e)⟩,
    hx.os, hx.tape, hx.output, hx.size, fun b hb _ => hx.keep b hb (fun c => c), fun b hb => .inl hb, fun d hd => .inl hd⟩⟩
end Sx

end Go.Proofs.YtgodcegaffgfjaaGreatDoor
