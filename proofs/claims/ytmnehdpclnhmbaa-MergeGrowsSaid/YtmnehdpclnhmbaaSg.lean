
/- mudlarkkit.SameFiles: its contract. -/
import Derived.Test.YtmnehdpclnhmbaaKj
namespace Go.Proofs.Ytmnehdpclnhmbaa
open Go.RowKit Sx

theorem getD_memS {α : Type} [Inhabited α] {l : List α} {k : Nat} (h : k < l.length) : l.getD k default ∈ l := by
  rw [List.getD_eq_getElem?_getD, List.getElem?_eq_getElem h]
  exact List.getElem_mem h
theorem key_eqD {fs gs : List FileV} {k : Nat} (ht : (fs.take k).map FileV.key = (gs.take k).map FileV.key) (h1 : k < fs.length) (h2 : k < gs.length) (hp : (fs.getD k default).path = (gs.getD k default).path) (hd : (fs.getD k default).data = (gs.getD k default).data) : (fs.take (k + 1)).map FileV.key = (gs.take (k + 1)).map FileV.key := by
  rw [take_getD (d := default) h1, take_getD (d := default) h2, List.map_append, List.map_append, ht]
  rw [List.map_singleton, List.map_singleton, FileV.key, FileV.key, hp, hd]
theorem key_at {fs gs : List FileV} (h : fs.map FileV.key = gs.map FileV.key) {k : Nat} (h1 : k < fs.length) : (fs.getD k default).path = (gs.getD k default).path ∧ (fs.getD k default).data = (gs.getD k default).data := by
  have hl : fs.length = gs.length := by have := congrArg List.length h; simpa using this
  have e := congrArg (fun l => l[k]?) h
  simp only [List.getElem?_map] at e
  rw [List.getElem?_eq_getElem h1, List.getElem?_eq_getElem (by omega)] at e
  simp only [Option.map_some, Option.some.injEq] at e
  simp only [List.getD_eq_getElem?_getD]
  rw [List.getElem?_eq_getElem h1, List.getElem?_eq_getElem (show k < gs.length by omega)]
  exact ⟨congrArg Prod.fst e, congrArg Prod.snd e⟩
set_option maxRecDepth 10000 in
set_option maxHeartbeats 1000000 in
theorem sameFiles_any (r : Hp) (v w : Value) (fs gs : List FileV) (hv : Files r v fs) (hw : Files r w gs) : Tri Try.prog r 8 [v, w] [] fun u H => u = .bool (decide (fs.map FileV.key = gs.map FileV.key)) ∧ H = [] := by
  refine Tri.free2 fun R HR => ?_
  obtain ⟨hv, hb⟩ := hv
  obtain ⟨hw, hc⟩ := hw
  have hlm := maxI hv.2.2.1
  have hkl := fun h : fs.map FileV.key = gs.map FileV.key => (by have := congrArg List.length h; simpa using this : fs.length = gs.length)
  refine fn_of_sw Try.func8 rfl _ rfl ?_; refine aen Try.ntmps8 ?_
  repeat' (first | refine aw0m ?_ | (refine ap2 ?_ ?_ <;> try intro h) | refine aw1m ?_ | (refine abx ?_; intro bb) | (refine abz ?_; intro bz) | (refine ahv ?_; intro v' hv') | (refine aac ?_; intro ac cc) | refine aw2 ?_ | (refine ap4 ?_ ?_ <;> try intro h) | apply True.intro)
  · ((with_reducible apply fp_ret); exact res_1 rfl rfl)
    exact HR.out _ _ _ [] (by (exact atks)) ⟨by rw [decide_eq_false]; intro e; have := hkl e; omega, rfl⟩
  · refine sw_loop (fun gm t H' => ∃ k : Nat, gm = fs.length + 1 - k ∧ (k ≤ fs.length) ∧ ((fs.take k).map FileV.key = (gs.take k).map FileV.key) ∧ (∃ G, Takes [] H' G) ∧ Sls t 27 [(0, v), (1, w), (5, .int .i64 k)]) _ ⟨0, rfl, Nat.zero_le _, by simp, ⟨[], atks⟩, asls⟩ ?_
    rintro gm t H' ⟨k, rfl, hk, ht, ⟨G, hp⟩, hs'⟩
    revert t; refine sls_all ?_; iterate 24 intro uu'
    refine sw_takeG hp ?_; clear hp
    by_cases hlt : k < fs.length
    · have hb1 := hb (fs.getD k default) (getD_memS hlt)
      have hc1 := hc (gs.getD k default) (getD_memS (by omega))
      repeat' (first | refine aw0m ?_ | (refine ap2 ?_ ?_ <;> try intro h) | (first | ((with_reducible apply sw_draw (id := 6) 10 [(0, true), (1, true), (2, true), (3, true), (4, true), (5, true), (6, true), (7, true), (8, false), (9, true)] [] []); kernel_rfl; (exact atks); kernel_rfl; intro r' hl')) | (refine acl Try.func19 ?_; refine acr (sameFile_any _ _ _ (hb1.mono hl'.1) (hc1.mono hl'.1)) ?_; rintro v' H' ⟨rfl, rfl⟩; all_goals refine apl ?_) | (refine acl Try.func19 ?_; refine acr (sameFile_any _ _ _ hb1 hc1) ?_; rintro v' H' ⟨rfl, rfl⟩; all_goals refine apl ?_) | refine aw1m ?_ | (refine abx ?_; intro bb) | (refine abz ?_; intro bz) | (refine ahv ?_; intro v' hv') | (refine aac ?_; intro ac cc) | refine aw2 ?_ | (refine ap4 ?_ ?_ <;> try intro h) | apply True.intro)
      all_goals first
        | (exact ⟨_, by omega, k + 1, rfl, by omega, key_eqD ht hlt (by omega) h.1 h.2, ⟨_, atks⟩, asls⟩)
        | (((with_reducible apply fp_ret); exact res_1 rfl rfl)
           exact HR.out _ _ _ [] (by (exact atks)) ⟨by rw [decide_eq_false]; intro e; have h3 := key_at e hlt; rcases h with h | h; exact h h3.1; exact h h3.2, rfl⟩)
    · repeat' (first | refine aw0m ?_ | (refine ap2 ?_ ?_ <;> try intro h) | (exfalso; first | contradiction | omega) | refine aw1m ?_ | (refine abx ?_; intro bb) | (refine abz ?_; intro bz) | (refine ahv ?_; intro v' hv') | (refine aac ?_; intro ac cc) | refine aw2 ?_ | (refine ap4 ?_ ?_ <;> try intro h) | apply True.intro)
      ((with_reducible apply fp_ret); exact res_1 rfl rfl)
      exact HR.out _ _ _ [] (by (exact atks)) ⟨by rw [decide_eq_true]; rwa [List.take_of_length_le (by omega), List.take_of_length_le (by omega)] at ht, rfl⟩
end Go.Proofs.Ytmnehdpclnhmbaa
