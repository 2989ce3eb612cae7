
/- Ru: rows of changes as arguments, opened. -/
import Derived.Test.YtmnehdpclnhmbaaRo
import Derived.Test.YtmnehdpclnhmbaaEl
import Derived.Test.YtmnehdpclnhmbaaNa
namespace Go.Proofs.Ytmnehdpclnhmbaa
open Go.RowKit Sx

set_option maxRecDepth 10000 in
theorem op_changes {H : Type} {enc : TypeId × Value → H} {W : World} {n : Nat} {cs : List Value} {x : DataW H × List MemPlace} (h : DataW.trod enc Try.prog W 0 (fun _ => true) true n 25 cs = some x) (hw : Wt Try.prog 25 x.1) :
    ∃ v, ∃ l : List ChV, cs = [v] ∧ Chs (hpOf W) v l ∧ (∀ c ∈ l, c.path.length ≤ 140737488351232 ∧ c.data.length ≤ 140737488351232) ∧ l.length ≤ 140737488351232 := by
  obtain ⟨v, l, rfl, hv, hq, hl⟩ := open_els (c' := encCh) (sz := 3) (Q := fun c => U8S (hpOf W) c.val c.data ∧ c.path.length ≤ 140737488351232 ∧ c.data.length ≤ 140737488351232) Try.underlying25 (by kernel_rfl) (by omega) (fun _ => rfl) (fun m cs y hy hwy => by
    obtain ⟨k, hlen, hf⟩ := open_struct (pl := [(9, 0, 1), (4, 1, 1), (40, 2, 1)]) (c := 3) Try.underlying44 (by kernel_rfl) (by kernel_rfl) hy hwy
    match cs, hlen with
    | [c0, c1, c2], _ =>
      obtain ⟨y0, h0, w0⟩ := hf 0 _ _ _ rfl
      obtain ⟨y1, h1, w1⟩ := hf 1 _ _ _ rfl
      obtain ⟨y2, h2, w2⟩ := hf 2 _ _ _ rfl
      simp only [List.drop_zero, List.drop_succ_cons, List.take_succ_cons, List.take_zero] at h0 h1 h2
      obtain ⟨p, e0, b0⟩ := op_str h0 w0
      obtain ⟨t, e1, _⟩ := Go.DataW.trod_bool Try.underlying4 h1
      obtain ⟨v, d, e2, hd, hdl⟩ := op_bytes h2 w2
      injection e0 with e0; injection e1 with e1; injection e2 with e2
      subst e0; subst e1; subst e2
      exact ⟨⟨p, t, _, d⟩, rfl, hd, b0, hdl⟩) h hw
  have hb : Program.bytesOf Try.prog 44 = 48 := by kernel_rfl
  rw [hb, reach_eq] at hl
  exact ⟨v, l, rfl, ⟨hv, fun c hc => (hq c hc).1⟩, fun c hc => (hq c hc).2, by omega⟩
end Go.Proofs.Ytmnehdpclnhmbaa

namespace Go.Proofs.Ytmnehdpclnhmbaa
open Go.RowKit Sx

structure ChR where
  val : Value
  chs : List ChV
  deriving Inhabited
def encCr (x : ChR) : List Value := [x.val]
abbrev ChRows (r : Hp) (v : Value) (X : List ChR) : Prop := Els r 1 encCr v X ∧ ∀ x ∈ X, Chs r x.val x.chs
set_option maxRecDepth 10000 in
theorem op_chrows {H : Type} {enc : TypeId × Value → H} {W : World} {n : Nat} {cs : List Value} {x : DataW H × List MemPlace} (h : DataW.trod enc Try.prog W 0 (fun _ => true) true n 22 cs = some x) (hw : Wt Try.prog 22 x.1) :
    ∃ v, ∃ X : List ChR, cs = [v] ∧ ChRows (hpOf W) v X ∧ (∀ x ∈ X, x.chs.length ≤ 140737488351232 ∧ ∀ c ∈ x.chs, c.path.length ≤ 140737488351232 ∧ c.data.length ≤ 140737488351232) ∧ X.length ≤ 140737488351232 := by
  obtain ⟨v, l, rfl, hv, hq, hl⟩ := open_els (c' := encCr) (sz := 1) (Q := fun x => Chs (hpOf W) x.val x.chs ∧ x.chs.length ≤ 140737488351232 ∧ ∀ c ∈ x.chs, c.path.length ≤ 140737488351232 ∧ c.data.length ≤ 140737488351232) Try.underlying22 (by kernel_rfl) (by omega) (fun _ => rfl) (fun m cs y hy hwy => by
    obtain ⟨v, d, e1, hd, hdl, hn⟩ := op_changes hy hwy
    subst e1
    exact ⟨⟨v, d⟩, rfl, hd, hn, hdl⟩) h hw
  have hb : Program.bytesOf Try.prog 25 = 24 := by kernel_rfl
  rw [hb, reach_eq] at hl
  exact ⟨v, l, rfl, ⟨hv, fun c hc => (hq c hc).1⟩, fun c hc => (hq c hc).2, by omega⟩
end Go.Proofs.Ytmnehdpclnhmbaa
