/- Rp: the arguments of this seat's laws opened. -/
import Derived.Test.YtfgkhkpngnhimaaGreatRo
import Derived.Test.YtfgkhkpngnhimaaGreatEl
namespace Go.Proofs.YtfgkhkpngnhimaaGreat
open Go.RowKit Sx

theorem reach_eq : reachBytes = 140737488351232 := rfl
theorem op_bytes {H : Type} {enc : TypeId × Value → H} {W : World} {n : Nat} {cs : List Value} {x : DataW H × List MemPlace} (h : DataW.trod enc Tryz.prog W 0 (fun _ => true) true n 26 cs = some x) (hw : Wt Tryz.prog 26 x.1) :
    ∃ v, ∃ l : List UInt8, cs = [v] ∧ U8S (hpOf W) v l ∧ l.length ≤ 140737488351232 :=
  open_bytes Tryz.underlying26 Tryz.underlying5 (by kernel_rfl) (by kernel_rfl) h hw
theorem op_files {H : Type} {enc : TypeId × Value → H} {W : World} {n : Nat} {cs : List Value} {x : DataW H × List MemPlace} (h : DataW.trod enc Tryz.prog W 0 (fun _ => true) true n 40 cs = some x) (hw : Wt Tryz.prog 40 x.1) :
    ∃ v, ∃ fs : List FileV, cs = [v] ∧ Files (hpOf W) v fs ∧ ∀ f ∈ fs, f.path.length ≤ 140737488351232 ∧ f.data.length ≤ 140737488351232 := by
  obtain ⟨v, fs, rfl, hv, hq, _⟩ := open_els (c' := encF) (sz := 2) (Q := fun f => U8S (hpOf W) f.val f.data ∧ f.path.length ≤ 140737488351232 ∧ f.data.length ≤ 140737488351232) Tryz.underlying40 (by kernel_rfl) (by omega) (fun _ => rfl) (fun m cs y hy hwy => by
    obtain ⟨u0, u1, k, y0, y1, rfl, ⟨h0, w0⟩, ⟨h1, w1⟩⟩ := open_two Tryz.underlying39 (by kernel_rfl) ⟨rfl, by kernel_rfl⟩ ⟨rfl, by kernel_rfl⟩ hy hwy
    obtain ⟨l, e0, hl⟩ := open_str Tryz.underlying9 h0 w0
    obtain ⟨v, d, e1, hd, hdl⟩ := op_bytes h1 w1
    injection e0 with e0; injection e1 with e1
    subst e0; subst e1
    exact ⟨⟨l, _, d⟩, rfl, hd, hl, hdl⟩) h hw
  exact ⟨v, fs, rfl, ⟨hv, fun f hf => (hq f hf).1⟩, fun f hf => (hq f hf).2⟩
theorem op_str {H : Type} {enc : TypeId × Value → H} {n : Nat} {cs : List Value} {x : DataW H × List MemPlace} {w : World} {b : Nat} {sp : Nat → Bool} {hd : Bool} (h : DataW.trod enc Tryz.prog w b sp hd n 9 cs = some x) (hw : Wt Tryz.prog 9 x.1) :
    ∃ l : List UInt8, cs = [.string (bs l)] ∧ l.length ≤ 140737488351232 := open_str Tryz.underlying9 h hw
end Go.Proofs.YtfgkhkpngnhimaaGreat
