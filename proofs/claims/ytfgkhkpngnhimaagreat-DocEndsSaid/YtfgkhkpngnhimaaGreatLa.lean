/- lang.Right, lang.Of, mudlarkref06.Right, mudlarkref06.Of: their contracts in the new form. -/
import Derived.Test.YtfgkhkpngnhimaaGreatOf
import Derived.Test.YtfgkhkpngnhimaaGreatSx
namespace Go.Proofs.YtfgkhkpngnhimaaGreat
open Go.RowKit Sx

namespace Sx
/-- A call that turns nothing, told in the old form. -/
theorem tri_ext {P : Program} {r : Hp} {f : FuncId} {args : List Value} {v : Value} (h : ∀ w, Calls P f args.toArray w fun e w' => e = .returned v ∧ Ext Nil w w') :
    Tri P r f args [] fun u H => u = v ∧ H = [] := by
  rw [tri_iff]
  intro w g o al
  refine (h w).mono ?_
  rintro e w' ⟨rfl, hx⟩
  have hk : ∀ (b : Nat) (u : Obj), w.heap[b]? = some u → w'.heap[b]? = some u := fun b u e => by
    have hb : b < w.heap.size := (Array.getElem?_eq_some_iff.1 e).1
    rw [hx.keep b hb (fun c => c)]; exact e
  exact ⟨v, [], g, rfl, ⟨rfl, rfl⟩, al, ⟨⟨fun b u e => hk b u (o.emb b u e), fun b u e => hk b u (o.ro b u e), o.dj, o.marks.mono (fun D a b c => ⟨hk D _ a, b⟩), fun k e => (by cases e)⟩,
    hx.os, hx.tape, hx.output, hx.size, fun b hb _ => hx.keep b hb (fun c => c), fun b hb => .inl hb, fun d hd => .inl hd⟩⟩
end Sx

theorem lright_any (r : Hp) (s : ByteArray) (hs : s.size ≤ 1000000) : Tri Tryz.prog r 66 [.string s] [] fun u H => u = .bool (pathOk s.data.toList) ∧ H = [] := tri_ext fun w => right_any s w hs
theorem lof_any (r : Hp) (s : ByteArray) (hs : s.size ≤ 1000000) : Tri Tryz.prog r 32 [.string s] [] fun u H => u = .string (bs (langOf s.data.toList)) ∧ H = [] := tri_ext fun w => of_any s w hs
theorem rright_any (r : Hp) (s : ByteArray) (hs : s.size ≤ 1000000) : Tri Tryz.prog r 37 [.string s] [] fun u H => u = .bool (refOk s.data.toList) ∧ H = [] := tri_ext fun w => refRight_any s w hs
theorem rof_any (r : Hp) (s : ByteArray) (hs : s.size ≤ 1000000) : Tri Tryz.prog r 38 [.string s] [] fun u H => u = .string (bs (langOf s.data.toList)) ∧ H = [] := tri_ext fun w => refOf_any s w hs
end Go.Proofs.YtfgkhkpngnhimaaGreat
