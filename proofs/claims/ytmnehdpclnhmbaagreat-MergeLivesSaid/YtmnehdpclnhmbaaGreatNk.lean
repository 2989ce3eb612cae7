
/- mudlarklaw27.great: its contract. -/
import Derived.Test.YtmnehdpclnhmbaaGreatNj
namespace Go.Proofs.YtmnehdpclnhmbaaGreat
open Go.RowKit Sx

def sizeM : List PartM → Nat
  | [] => 0
  | x :: X => sizeF x.files + x.dead.length + sizeM X
theorem sizeM_app (l m : List PartM) : sizeM (l ++ m) = sizeM l + sizeM m := by
  induction l with
  | nil => simp [sizeM]
  | cons f l ih => simp only [List.cons_append, sizeM, ih]; omega
theorem sizeM_mem {X : List PartM} {x : PartM} (h : x ∈ X) : sizeF x.files + x.dead.length ≤ sizeM X := by
  induction X with
  | nil => cases h
  | cons g X ih =>
    rcases List.mem_cons.1 h with rfl | h
    · simp only [sizeM]; omega
    · have := ih h; simp only [sizeM]; omega
set_option maxRecDepth 10000 in
set_option maxHeartbeats 4000000 in
theorem great_any (r : Hp) (v vl : Value) (X : List PartM) (cs : List ChV) (hv : PartsR r v X) (hl : Chs r vl cs) (hn : X.length ≤ 140737488351232) (hd : ∀ x ∈ X, x.dead.length ≤ 140737488351232) (hp : ∀ x ∈ X, ∀ f ∈ x.files, f.path.length ≤ 140737488351232 ∧ f.data.length ≤ 140737488351232) (hc : ∀ f ∈ cs, f.path.length ≤ 140737488351232 ∧ f.data.length ≤ 140737488351232) :
    Tri Tryz.prog r 5 [v, vl] [] fun w H => (∃ g : Bool, w = .bool g ∧ (g = false → X.length + sizeC cs + sizeM X ≤ 3000)) ∧ H = [] := by
  refine Tri.free2 fun R HR => ?_
  obtain ⟨hve, hvb⟩ := hv
  have hco := changesOf_any r vl cs 3000 hl hc (by omega)
  refine fn_of_sw Tryz.func5 rfl _ rfl ?_; refine aen Tryz.ntmps5 ?_
  repeat' (first | (refine acl Tryz.func15 ?_; refine acr (hco) ?_; rintro v' H' ⟨⟨s0, rfl, hs0, hb0⟩, rfl⟩; all_goals refine apl ?_) | refine aw0 ?_ | (refine ap2 ?_ ?_ <;> try intro h) | refine aw1 ?_ | (refine abx ?_; intro bb) | (refine abz ?_; intro bz) | (refine ahv ?_; intro v' hv') | (refine aac ?_; intro ac cc) | refine aw2 ?_ | (refine ap4 ?_ ?_ <;> try intro h) | apply True.intro)
  refine sw_loop (fun gm t H' => ∃ (k s : Nat), gm = X.length + 1 - k ∧ (k ≤ X.length) ∧ (3000 < s ∨ s = X.length + sizeC cs + sizeM (X.take k)) ∧ (s ≤ 1000000000000000) ∧ (∃ G, Takes [] H' G) ∧ Sls t 39 [(0, v), (5, .int .i64 s), (6, .int .i64 k)]) _ ⟨0, X.length + s0, rfl, Nat.zero_le _, (by have h0 : sizeM (X.take 0) = 0 := rfl; omega), (by omega), ⟨[], by (exact atks)⟩, asls⟩ ?_
  rintro gm t H' ⟨k, s, rfl, hk, hs, hb, ⟨G, hp⟩, hs'⟩
  revert t; refine sls_all ?_; iterate 36 intro uu'
  refine sw_takeG hp ?_; clear hp
  by_cases hlt : k < X.length
  · have hmem : X.getD k default ∈ X := getD_memS hlt
    obtain ⟨hxf, hxd⟩ := hvb _ hmem
    have hd1 := hd _ hmem
    have hst : sizeM (X.take (k + 1)) = sizeM (X.take k) + (sizeF (X.getD k default).files + (X.getD k default).dead.length) := by
      rw [take_getD (d := default) hlt, sizeM_app]; simp [sizeM]
    have hfo := filesOfB_any r _ _ 3000 hxf (hp _ hmem) (by omega)
    obtain ⟨ad, cd, hdv⟩ := hxd.form
    repeat' (first | (first | ((with_reducible apply sw_draw (id := 5) 15 [(0, true), (1, true), (2, true), (3, true), (4, true), (5, true), (8, true), (9, true), (10, true), (11, true), (12, true), (13, true), (6, false), (7, true), (14, true)] [(15, false)] []); kernel_rfl; (exact atks); kernel_rfl; intro r' hl')) | (refine acl Tryz.func16 ?_; refine acr (hfo.up hl'.1) ?_; rintro v' H' ⟨⟨s1, rfl, hs1, hb1⟩, rfl⟩; all_goals refine apl ?_) | (exfalso; first | contradiction | omega) | refine aw0 ?_ | (refine ap2 ?_ ?_ <;> try intro h) | refine aw1 ?_ | (refine abx ?_; intro bb) | (refine abz ?_; intro bz) | (refine ahv ?_; intro v' hv') | (refine aac ?_; intro ac cc) | refine aw2 ?_ | (refine ap4 ?_ ?_ <;> try intro h) | apply True.intro)
    all_goals first
      | (exact ⟨_, by omega, k + 1, s + s1 + (X.getD k default).dead.length, rfl, by omega, by rw [hst]; omega, by omega, ⟨[], by (exact atks)⟩, asls⟩)
      | (((with_reducible apply fp_ret); exact res_1 rfl rfl)
         exact HR.out _ _ _ [] (by (exact atks)) ⟨⟨_, rfl, fun h => by rw [decide_eq_false_iff_not] at h; omega⟩, rfl⟩)
  · obtain rfl : k = X.length := by omega
    rw [List.take_length] at hs
    repeat' (first | (exfalso; first | contradiction | omega) | refine aw0 ?_ | (refine ap2 ?_ ?_ <;> try intro h) | refine aw1 ?_ | (refine abx ?_; intro bb) | (refine abz ?_; intro bz) | (refine ahv ?_; intro v' hv') | (refine aac ?_; intro ac cc) | refine aw2 ?_ | (refine ap4 ?_ ?_ <;> try intro h) | apply True.intro)
    ((with_reducible apply fp_ret); exact res_1 rfl rfl)
    exact HR.out _ _ _ [] (by (exact atks)) ⟨⟨_, rfl, fun h => by rw [decide_eq_false_iff_not] at h; omega⟩, rfl⟩
end Go.Proofs.YtmnehdpclnhmbaaGreat
