
/- QueryOrder: its contract for whatever queries. -/
import Derived.Test.YtgodcegaffgfjaaDoorVs
namespace Go.Proofs.YtgodcegaffgfjaaDoor
open Go.RowKit Sx

set_option maxRecDepth 10000 in
set_option maxHeartbeats 16000000 in
theorem orderN_any (r : Hp) (hT : TabR r) (a b c : QuV) (ha : QuR r a) (hb : QuR r b) (hc : QuR r c) (hs : sizeQ a.key + sizeQ b.key + sizeQ c.key ≤ 2000000) (hn : ¬ (rightQ a.key = true ∧ rightQ b.key = true ∧ rightQ c.key = true)) : Tri Tryd.prog r 4 [.agg (encQ a).toArray, .agg (encQ b).toArray, .agg (encQ c).toArray] [] fun w H => w = .bool true ∧ H = [] := by
  have haw := awake16_any r hT
  have hri1 := right_any a (by omega) r hT ha
  have hri2 := right_any b (by omega) r hT hb
  have hri3 := right_any c (by omega) r hT hc
  rw [encQ_eq] at hri1 hri2 hri3
  have hcq : ∀ r' b', sub r r' → r' b' = some (.cells [.int .i64 a.kind, a.gv, a.sv, .int .i64 b.kind, b.gv, b.sv, .int .i64 c.kind, c.gv, c.sv].toArray 30 (0, 0)) → Tri Tryd.prog r' 6 [.slice (some ⟨b', 0, none⟩) 3 3, .int .i64 400] [] fun w H => (∃ n : Nat, w = .int .i64 n) ∧ H = [] := fun r' b' h hb' => (queriesOf_any r' _ [a, b, c] 400 (lit_els (n := 3) hb' rfl rfl (by omega)) (fun q hq => by
    rcases List.mem_cons.1 hq with rfl | hq
    · exact ha.mono h
    · exact two_read (hb.mono h) (hc.mono h) q hq) (by simp only [List.map_cons, List.map_nil, sizeQs]; omega) (by omega)).mono (by
    rintro w H ⟨⟨n, rfl, _⟩, rfl⟩
    exact ⟨⟨n, rfl⟩, rfl⟩)
  obtain ⟨h1a, h2a, _⟩ := quR_iff.1 ha
  obtain ⟨h1b, h2b, _⟩ := quR_iff.1 hb
  obtain ⟨h1c, h2c, _⟩ := quR_iff.1 hc
  generalize rightQ a.key = ra at *
  generalize rightQ b.key = rb at *
  generalize rightQ c.key = rc at *
  refine Tri.free2 fun R HR => ?_
  show Tri _ _ _ [.agg [.int .i64 a.kind, a.gv, a.sv].toArray, .agg [.int .i64 b.kind, b.gv, b.sv].toArray, .agg [.int .i64 c.kind, c.gv, c.sv].toArray] _ _
  have hcase : (ra = false) ∨ (ra = true ∧ rb = false) ∨ (ra = true ∧ rb = true ∧ rc = false) := by
    cases ra <;> cases rb <;> cases rc <;> simp_all
  rcases hcase with rfl | ⟨rfl, rfl⟩ | ⟨rfl, rfl, rfl⟩
  all_goals
    refine fn_of_sw Tryd.func4 rfl _ rfl ?_; refine aen Tryd.ntmps4 ?_
    repeat' (first | ((with_reducible apply kx_box (d := some 3)); rfl; (exact qcl); intro b3; (refine apk ?_)) | ((with_reducible apply kx_box (d := some 4)); rfl; (exact qcl); intro b4; (refine apk ?_)) | ((with_reducible apply kx_box (d := some 5)); rfl; (exact qcl); intro b5; (refine apk ?_)) | (refine acl Tryd.func5 ?_; refine acr (haw) ?_; rintro v' H' ⟨rfl, rfl⟩; all_goals refine apl ?_) | ((with_reducible apply kx_bsL (d := some 13)); exact ty_el; exact ty_inf; rfl; rfl; rfl; (exact qcs); rfl; intro b13; (refine apk ?_)) | ((with_reducible apply kx_lend [(b13, .cells [.int .i64 a.kind, a.gv, a.sv, .int .i64 b.kind, b.gv, b.sv, .int .i64 c.kind, c.gv, c.sv].toArray 30 (0, 0))]); (exact atks); intro r' hl'; refine acl Tryd.func6 ?_; refine acr (hcq _ b13 hl'.1 (Lent.h1 hl')) ?_; rintro v' H' ⟨⟨n1, rfl⟩, rfl⟩; all_goals refine apm ?_) | (refine acl Tryd.func8 ?_; refine acr (hri1) ?_; rintro v' H' ⟨rfl, rfl⟩; all_goals refine apl ?_) | (refine acl Tryd.func8 ?_; refine acr (hri2) ?_; rintro v' H' ⟨rfl, rfl⟩; all_goals refine apl ?_) | (refine acl Tryd.func8 ?_; refine acr (hri3) ?_; rintro v' H' ⟨rfl, rfl⟩; all_goals refine apl ?_) | (exfalso; first | contradiction | omega) | refine aw0 ?_ | (refine ap2 ?_ ?_ <;> try intro h) | refine aw1 ?_ | (refine abx ?_; intro bb) | (refine abz ?_; intro bz) | (refine ahv ?_; intro v' hv') | (refine aac ?_; intro ac cc) | refine aw2 ?_ | (refine ap4 ?_ ?_ <;> try intro h) | apply True.intro)
  all_goals
    ((with_reducible apply fp_ret); exact res_1 rfl rfl)
    exact HR.out _ _ _ [] Takes.all ⟨rfl, rfl⟩
theorem order_any (r : Hp) (hT : TabR r) (a b c : QuV) (ha : QuR r a) (hb : QuR r b) (hc : QuR r c) (hs : sizeQ a.key + sizeQ b.key + sizeQ c.key ≤ 2000000) : Tri Tryd.prog r 4 [.agg (encQ a).toArray, .agg (encQ b).toArray, .agg (encQ c).toArray] [] fun w H => w = .bool true ∧ H = [] := by
  by_cases h : rightQ a.key = true ∧ rightQ b.key = true ∧ rightQ c.key = true
  · exact orderR_any r hT a b c ha hb hc hs h.1 h.2.1 h.2.2
  · exact orderN_any r hT a b c ha hb hc hs h
end Go.Proofs.YtgodcegaffgfjaaDoor
