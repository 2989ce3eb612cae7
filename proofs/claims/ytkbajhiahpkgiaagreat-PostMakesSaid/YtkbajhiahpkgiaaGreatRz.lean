
/- Rz: postings, rows of bytes as arguments, opened. -/
import Derived.Test.YtkbajhiahpkgiaaGreatRo
import Derived.Test.YtkbajhiahpkgiaaGreatPz
import Derived.Test.YtkbajhiahpkgiaaGreatGr
namespace Go.Proofs.YtkbajhiahpkgiaaGreat
open Go.RowKit Sx

set_option maxRecDepth 10000 in
theorem op_rows {H : Type} {enc : TypeId × Value → H} {W : World} {n : Nat} {cs : List Value} {x : DataW H × List MemPlace} (h : DataW.trod enc Tryz.prog W 0 (fun _ => true) true n 22 cs = some x) (hw : Wt Tryz.prog 22 x.1) :
    ∃ v, ∃ bv : List BytV, cs = [v] ∧ Rowz (hpOf W) v bv ∧ bv.length ≤ 140737488351232 ∧ ∀ x ∈ bv, x.data.length ≤ 140737488351232 := by
  obtain ⟨v, bv, rfl, hv, hq, hl⟩ := open_els (c' := encBy) (sz := 1) (Q := fun x => U8S (hpOf W) x.val x.data ∧ x.data.length ≤ 140737488351232) Tryz.underlying22 (by kernel_rfl) (by omega) (fun _ => rfl) (fun m cs y hy hwy => by
    obtain ⟨v, d, e1, hd, hdl⟩ := op_bytes hy hwy
    subst e1
    exact ⟨⟨v, d⟩, rfl, hd, hdl⟩) h hw
  have hb : Program.bytesOf Tryz.prog 33 = 24 := by kernel_rfl
  rw [hb, reach_eq] at hl
  exact ⟨v, bv, rfl, ⟨hv, fun x hx => (hq x hx).1⟩, by omega, fun x hx => (hq x hx).2⟩
end Go.Proofs.YtkbajhiahpkgiaaGreat
