
/- Rz: postings, rows of bytes as arguments, opened. -/
import Derived.Test.YtkbajhiahpkgiaaGreatRo
import Derived.Test.YtkbajhiahpkgiaaGreatPz
import Derived.Test.YtkbajhiahpkgiaaGreatGr
namespace Go.Proofs.YtkbajhiahpkgiaaGreat
open Go.RowKit Sx

set_option maxRecDepth 10000 in
theorem op_places {H : Type} {enc : TypeId × Value → H} {W : World} {n : Nat} {cs : List Value} {x : DataW H × List MemPlace} (h : DataW.trod enc Tryz.prog W 0 (fun _ => true) true n 38 cs = some x) (hw : Wt Tryz.prog 38 x.1) :
    ∃ v, ∃ l : List PlaceV, cs = [v] ∧ Els (hpOf W) 2 encPl v l ∧ l.length ≤ 140737488351232 := by
  obtain ⟨v, l, rfl, hv, _, hl⟩ := open_els (c' := encPl) (sz := 2) (Q := fun _ => True) Tryz.underlying38 (by kernel_rfl) (by omega) (fun _ => rfl) (fun m cs y hy hwy => by
    obtain ⟨u0, u1, k, y0, y1, rfl, ⟨h0, w0⟩, ⟨h1, w1⟩⟩ := open_two Tryz.underlying56 (by kernel_rfl) ⟨rfl, by kernel_rfl⟩ ⟨rfl, by kernel_rfl⟩ hy hwy
    obtain ⟨i, e0, _⟩ := open_num Tryz.underlying3 h0
    obtain ⟨j, e1, _⟩ := open_num Tryz.underlying3 h1
    injection e0 with e0; injection e1 with e1
    subst e0; subst e1
    exact ⟨⟨i, j⟩, rfl, trivial⟩) h hw
  have hb : Program.bytesOf Tryz.prog 56 = 16 := by kernel_rfl
  rw [hb, reach_eq] at hl
  exact ⟨v, l, rfl, hv, by omega⟩
set_option maxRecDepth 10000 in
theorem op_postings {H : Type} {enc : TypeId × Value → H} {W : World} {n : Nat} {cs : List Value} {x : DataW H × List MemPlace} (h : DataW.trod enc Tryz.prog W 0 (fun _ => true) true n 26 cs = some x) (hw : Wt Tryz.prog 26 x.1) :
    ∃ v, ∃ xs : List PostV, cs = [v] ∧ Posts (hpOf W) v xs ∧ ∀ x ∈ xs, x.gram.length ≤ 140737488351232 ∧ x.pl.length ≤ 140737488351232 := by
  obtain ⟨v, xs, rfl, hv, hq, _⟩ := open_els (c' := encPo) (sz := 2) (Q := fun x => Els (hpOf W) 2 encPl x.val x.pl ∧ x.gram.length ≤ 140737488351232 ∧ x.pl.length ≤ 140737488351232) Tryz.underlying26 (by kernel_rfl) (by omega) (fun _ => rfl) (fun m cs y hy hwy => by
    obtain ⟨u0, u1, k, y0, y1, rfl, ⟨h0, w0⟩, ⟨h1, w1⟩⟩ := open_two Tryz.underlying53 (by kernel_rfl) ⟨rfl, by kernel_rfl⟩ ⟨rfl, by kernel_rfl⟩ hy hwy
    obtain ⟨l, e0, hl⟩ := op_str h0 w0
    obtain ⟨v, d, e1, hd, hdl⟩ := op_places h1 w1
    injection e0 with e0; injection e1 with e1
    subst e0; subst e1
    exact ⟨⟨l, _, d⟩, rfl, hd, hl, hdl⟩) h hw
  exact ⟨v, xs, rfl, ⟨hv, fun x hx => (hq x hx).1⟩, fun x hx => (hq x hx).2⟩
end Go.Proofs.YtkbajhiahpkgiaaGreat
