
/- Rs: changes, parts, rows of changes as arguments, opened. -/
import Derived.Test.YtmnehdpclnhmbaaGreatRo
import Derived.Test.YtmnehdpclnhmbaaGreatEl
import Derived.Test.YtmnehdpclnhmbaaGreatNa
namespace Go.Proofs.YtmnehdpclnhmbaaGreat
open Go.RowKit Sx

theorem op_files {H : Type} {enc : TypeId × Value → H} {W : World} {n : Nat} {cs : List Value} {x : DataW H × List MemPlace} (h : DataW.trod enc Tryz.prog W 0 (fun _ => true) true n 28 cs = some x) (hw : Wt Tryz.prog 28 x.1) :
    ∃ v, ∃ fs : List FileV, cs = [v] ∧ Files (hpOf W) v fs ∧ ∀ f ∈ fs, f.path.length ≤ 140737488351232 ∧ f.data.length ≤ 140737488351232 := by
  obtain ⟨v, fs, rfl, hv, hq, _⟩ := open_els (c' := encF) (sz := 2) (Q := fun f => U8S (hpOf W) f.val f.data ∧ f.path.length ≤ 140737488351232 ∧ f.data.length ≤ 140737488351232) Tryz.underlying28 (by kernel_rfl) (by omega) (fun _ => rfl) (fun m cs y hy hwy => by
    obtain ⟨u0, u1, k, y0, y1, rfl, ⟨h0, w0⟩, ⟨h1, w1⟩⟩ := open_two Tryz.underlying45 (by kernel_rfl) ⟨rfl, by kernel_rfl⟩ ⟨rfl, by kernel_rfl⟩ hy hwy
    obtain ⟨l, e0, hl⟩ := open_str Tryz.underlying9 h0 w0
    obtain ⟨v, d, e1, hd, hdl⟩ := op_bytes h1 w1
    injection e0 with e0; injection e1 with e1
    subst e0; subst e1
    exact ⟨⟨l, _, d⟩, rfl, hd, hl, hdl⟩) h hw
  exact ⟨v, fs, rfl, ⟨hv, fun f hf => (hq f hf).1⟩, fun f hf => (hq f hf).2⟩
end Go.Proofs.YtmnehdpclnhmbaaGreat

namespace Go.Proofs.YtmnehdpclnhmbaaGreat
open Go.RowKit Sx

set_option maxRecDepth 10000 in
theorem op_changes {H : Type} {enc : TypeId × Value → H} {W : World} {n : Nat} {cs : List Value} {x : DataW H × List MemPlace} (h : DataW.trod enc Tryz.prog W 0 (fun _ => true) true n 23 cs = some x) (hw : Wt Tryz.prog 23 x.1) :
    ∃ v, ∃ l : List ChV, cs = [v] ∧ Chs (hpOf W) v l ∧ (∀ c ∈ l, c.path.length ≤ 140737488351232 ∧ c.data.length ≤ 140737488351232) ∧ l.length ≤ 140737488351232 := by
  obtain ⟨v, l, rfl, hv, hq, hl⟩ := open_els (c' := encCh) (sz := 3) (Q := fun c => U8S (hpOf W) c.val c.data ∧ c.path.length ≤ 140737488351232 ∧ c.data.length ≤ 140737488351232) Tryz.underlying23 (by kernel_rfl) (by omega) (fun _ => rfl) (fun m cs y hy hwy => by
    obtain ⟨k, hlen, hf⟩ := open_struct (pl := [(9, 0, 1), (4, 1, 1), (43, 2, 1)]) (c := 3) Tryz.underlying47 (by kernel_rfl) (by kernel_rfl) hy hwy
    match cs, hlen with
    | [c0, c1, c2], _ =>
      obtain ⟨y0, h0, w0⟩ := hf 0 _ _ _ rfl
      obtain ⟨y1, h1, w1⟩ := hf 1 _ _ _ rfl
      obtain ⟨y2, h2, w2⟩ := hf 2 _ _ _ rfl
      simp only [List.drop_zero, List.drop_succ_cons, List.take_succ_cons, List.take_zero] at h0 h1 h2
      obtain ⟨p, e0, b0⟩ := op_str h0 w0
      obtain ⟨t, e1, _⟩ := Go.DataW.trod_bool Tryz.underlying4 h1
      obtain ⟨v, d, e2, hd, hdl⟩ := op_bytes h2 w2
      injection e0 with e0; injection e1 with e1; injection e2 with e2
      subst e0; subst e1; subst e2
      exact ⟨⟨p, t, _, d⟩, rfl, hd, b0, hdl⟩) h hw
  have hb : Program.bytesOf Tryz.prog 47 = 48 := by kernel_rfl
  rw [hb, reach_eq] at hl
  exact ⟨v, l, rfl, ⟨hv, fun c hc => (hq c hc).1⟩, fun c hc => (hq c hc).2, by omega⟩
set_option maxRecDepth 10000 in
theorem op_ints {H : Type} {enc : TypeId × Value → H} {W : World} {n : Nat} {cs : List Value} {x : DataW H × List MemPlace} (h : DataW.trod enc Tryz.prog W 0 (fun _ => true) true n 36 cs = some x) (hw : Wt Tryz.prog 36 x.1) :
    ∃ v, ∃ l : List Int, cs = [v] ∧ Els (hpOf W) 1 encJ v l ∧ l.length ≤ 140737488351232 := by
  obtain ⟨v, l, rfl, hv, _, hl⟩ := open_els (c' := encJ) (sz := 1) (Q := fun _ => True) Tryz.underlying36 (by kernel_rfl) (by omega) (fun _ => rfl) (fun m cs y hy hwy => by
    obtain ⟨i, e0, _⟩ := open_num Tryz.underlying3 hy
    subst e0
    exact ⟨i, rfl, trivial⟩) h hw
  have hb : Program.bytesOf Tryz.prog 3 = 8 := by kernel_rfl
  rw [hb, reach_eq] at hl
  exact ⟨v, l, rfl, hv, by omega⟩
set_option maxRecDepth 10000 in
theorem op_parts {H : Type} {enc : TypeId × Value → H} {W : World} {n : Nat} {cs : List Value} {x : DataW H × List MemPlace} (h : DataW.trod enc Tryz.prog W 0 (fun _ => true) true n 22 cs = some x) (hw : Wt Tryz.prog 22 x.1) :
    ∃ v, ∃ X : List PartM, cs = [v] ∧ PartsR (hpOf W) v X ∧ (∀ x ∈ X, x.dead.length ≤ 140737488351232 ∧ ∀ f ∈ x.files, f.path.length ≤ 140737488351232 ∧ f.data.length ≤ 140737488351232) ∧ X.length ≤ 140737488351232 := by
  obtain ⟨v, l, rfl, hv, hq, hl⟩ := open_els (c' := encMp) (sz := 2) (Q := fun x => PartR (hpOf W) x ∧ x.dead.length ≤ 140737488351232 ∧ ∀ f ∈ x.files, f.path.length ≤ 140737488351232 ∧ f.data.length ≤ 140737488351232) Tryz.underlying22 (by kernel_rfl) (by omega) (fun _ => rfl) (fun m cs y hy hwy => by
    obtain ⟨u0, u1, k, y0, y1, rfl, ⟨h0, w0⟩, ⟨h1, w1⟩⟩ := open_two Tryz.underlying38 (by kernel_rfl) ⟨rfl, by kernel_rfl⟩ ⟨rfl, by kernel_rfl⟩ hy hwy
    obtain ⟨v0, fs, e0, hf, hfl⟩ := op_files h0 w0
    obtain ⟨v1, d, e1, hd, hdl⟩ := op_ints h1 w1
    injection e0 with e0; injection e1 with e1
    subst e0; subst e1
    exact ⟨⟨_, _, fs, d⟩, rfl, ⟨hf, hd⟩, hdl, hfl⟩) h hw
  have hb : Program.bytesOf Tryz.prog 38 = 48 := by kernel_rfl
  rw [hb, reach_eq] at hl
  exact ⟨v, l, rfl, ⟨hv, fun c hc => (hq c hc).1⟩, fun c hc => (hq c hc).2, by omega⟩
end Go.Proofs.YtmnehdpclnhmbaaGreat
