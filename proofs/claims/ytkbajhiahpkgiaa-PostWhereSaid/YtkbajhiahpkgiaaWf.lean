/- wire.Writer.Text at one text: its contract. -/
import Derived.Test.YtkbajhiahpkgiaaWe
namespace Go.Proofs.Ytkbajhiahpkgiaa
open Go.RowKit Sx

theorem wtext1_any (r : Hp) (g : Nat) (v : Value) (l : List UInt8) (tv pv : Value) (p : List UInt8) (hs : Sl r 1 tv 1 [pv]) (ht : U8S r pv p) (hp : p.length ≤ 1000000) (hl : l.length + (texts p).length ≤ 60000000000000) :
    Tri Try.prog r 33 [.pointer (some ⟨g, 0, none⟩), tv] [pt g (wri v false), U8R v l] fun _ H => ∃ v', H = [pt g (wri v' false), U8R v' (l ++ texts p)] := by
  refine (wtext_any r g v l tv [(pv, p)] hs (by simp; exact ⟨ht, hp⟩) (by simpa [textsOf] using hl)).mono ?_
  rintro w H ⟨v', rfl⟩
  exact ⟨v', by simp [textsOf]⟩
end Go.Proofs.Ytkbajhiahpkgiaa
