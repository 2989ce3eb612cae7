/- Rq: documents as an argument, opened. -/
import Derived.Test.YtfgkhkpngnhimaaGreatRp
import Derived.Test.YtfgkhkpngnhimaaGreatKd
namespace Go.Proofs.YtfgkhkpngnhimaaGreat
open Go.RowKit Sx

set_option maxRecDepth 10000 in
theorem op_docs {H : Type} {enc : TypeId × Value → H} {W : World} {n : Nat} {cs : List Value} {x : DataW H × List MemPlace} (h : DataW.trod enc Tryz.prog W 0 (fun _ => true) true n 22 cs = some x) (hw : Wt Tryz.prog 22 x.1) :
    ∃ v, ∃ ds : List DocV, cs = [v] ∧ Docs (hpOf W) v ds ∧ (∀ d ∈ ds, d.path.length ≤ 140737488351232 ∧ d.lang.length ≤ 140737488351232) ∧ ∀ d ∈ ds, d.sum < 4294967296 := by
  obtain ⟨v, ds, rfl, hv, hq, _⟩ := open_els (c' := encD) (sz := 4) (Q := fun d => (d.path.length ≤ 140737488351232 ∧ d.lang.length ≤ 140737488351232) ∧ d.sum < 4294967296) Tryz.underlying22 (by kernel_rfl) (by omega) (fun _ => rfl) (fun m cs y hy hwy => by
    obtain ⟨k, hlen, hf⟩ := open_struct (pl := [(9, 0, 1), (9, 1, 1), (45, 2, 1), (3, 3, 1)]) (c := 4) Tryz.underlying47 (by kernel_rfl) (by kernel_rfl) hy hwy
    match cs, hlen with
    | [c0, c1, c2, c3], _ =>
      obtain ⟨y0, h0, w0⟩ := hf 0 _ _ _ rfl
      obtain ⟨y1, h1, w1⟩ := hf 1 _ _ _ rfl
      obtain ⟨y2, h2, w2⟩ := hf 2 _ _ _ rfl
      obtain ⟨y3, h3, w3⟩ := hf 3 _ _ _ rfl
      simp only [List.drop_zero, List.drop_succ_cons, List.take_succ_cons, List.take_zero] at h0 h1 h2 h3
      obtain ⟨l, e0, b0⟩ := op_str h0 w0
      obtain ⟨g, e1, b1⟩ := op_str h1 w1
      obtain ⟨j, e2, b2⟩ := open_num Tryz.underlying45 h2
      obtain ⟨s, rfl, hs⟩ := wf_u32 b2
      obtain ⟨i, e3, _⟩ := open_num Tryz.underlying3 h3
      injection e0 with e0; injection e1 with e1; injection e2 with e2; injection e3 with e3
      subst e0; subst e1; subst e2; subst e3
      exact ⟨⟨l, g, s, i⟩, rfl, ⟨b0, b1⟩, hs⟩) h hw
  exact ⟨v, ds, rfl, hv, fun d hd => (hq d hd).1, fun d hd => (hq d hd).2⟩
end Go.Proofs.YtfgkhkpngnhimaaGreat
