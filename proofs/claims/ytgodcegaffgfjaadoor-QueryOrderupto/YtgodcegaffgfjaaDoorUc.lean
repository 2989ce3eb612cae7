
/- Queries counted and compared (mudlarkkit), query.lone: their contracts. -/
import Derived.Test.YtgodcegaffgfjaaDoorUb
namespace Go.Proofs.YtgodcegaffgfjaaDoor
open Go.RowKit Sx

theorem getD_memU {α : Type} [Inhabited α] {l : List α} {k : Nat} (h : k < l.length) : l.getD k default ∈ l := by
  rw [List.getD_eq_getElem?_getD, List.getElem?_eq_getElem h]
  exact List.getElem_mem h
set_option maxRecDepth 10000 in
set_option maxHeartbeats 2000000 in
theorem textsOf_any (r : Hp) (v : Value) (gs : List Tx) (most : Int) (hv : Els r 1 encTx v gs) (hs : sizeT gs ≤ 10000000) (hm : -10000000 ≤ most ∧ most ≤ 10000000) : Tri Tryd.prog r 7 [v, .int .i64 most] [] fun w H => (∃ n : Nat, w = .int .i64 n ∧ n ≤ sizeT gs) ∧ H = [] := by
  refine Tri.free2 fun R HR => ?_
  have hlm := maxI hv.2.2.1
  refine fn_of_sw Tryd.func7 rfl _ rfl ?_; refine aen Tryd.ntmps7 ?_
  repeat' (first | refine aw0m ?_ | (refine ap2 ?_ ?_ <;> try intro h) | refine aw1m ?_ | (refine abx ?_; intro bb) | (refine abz ?_; intro bz) | (refine ahv ?_; intro v' hv') | (refine aac ?_; intro ac cc) | refine aw2 ?_ | (refine ap4 ?_ ?_ <;> try intro h) | apply True.intro)
  refine sw_loop (fun gm t H' => ∃ (k : Nat), gm = gs.length + 1 - k ∧ (k ≤ gs.length) ∧ (∃ G, Takes [] H' G) ∧ Sls t 27 [(0, v), (1, .int .i64 most), (5, .int .i64 (sizeT (gs.take k) : Nat)), (6, .int .i64 k)]) _ ⟨0, rfl, Nat.zero_le _, ⟨[], by (exact atks)⟩, asls⟩ ?_
  rintro gm t H' ⟨k, rfl, hk, ⟨G, hp⟩, hs'⟩
  revert t; refine sls_all ?_; iterate 23 intro uu'
  refine sw_takeG hp ?_; clear hp
  have hsa := sizeT_app (gs.take k) (gs.drop k)
  rw [List.take_append_drop] at hsa
  by_cases hlt : k < gs.length
  · have hst : sizeT (gs.take (k + 1)) = sizeT (gs.take k) + ((gs.getD k default).length + 1) := by
      rw [take_getD (d := default) hlt, sizeT_app]; simp [sizeT]
    have hsm := sizeT_mem (getD_memU (l := gs) hlt)
    repeat' (first | (exfalso; first | contradiction | omega) | refine aw0 ?_ | (refine ap2 ?_ ?_ <;> try intro h) | refine aw1 ?_ | (refine abx ?_; intro bb) | (refine abz ?_; intro bz) | (refine ahv ?_; intro v' hv') | (refine aac ?_; intro ac cc) | refine aw2 ?_ | (refine ap4 ?_ ?_ <;> try intro h) | apply True.intro)
    all_goals first
      | (exact ⟨_, by omega, k + 1, rfl, by omega, ⟨[], by (exact atks)⟩, asls⟩)
      | (((with_reducible apply fp_ret); exact res_1 rfl rfl)
         exact HR.out _ _ _ [] (by (exact atks)) ⟨⟨_, rfl, by omega⟩, rfl⟩)
  · obtain rfl : k = gs.length := by omega
    repeat' (first | (exfalso; first | contradiction | omega) | refine aw0 ?_ | (refine ap2 ?_ ?_ <;> try intro h) | refine aw1 ?_ | (refine abx ?_; intro bb) | (refine abz ?_; intro bz) | (refine ahv ?_; intro v' hv') | (refine aac ?_; intro ac cc) | refine aw2 ?_ | (refine ap4 ?_ ?_ <;> try intro h) | apply True.intro)
    ((with_reducible apply fp_ret); exact res_1 rfl rfl)
    exact HR.out _ _ _ [] (by (exact atks)) ⟨⟨_, rfl, by omega⟩, rfl⟩
def CountQ (q : QuV) : Prop := ∀ (r : Hp) (most : Int), QuR r q → -10000000 ≤ most ∧ most ≤ 10000000 → Tri Tryd.prog r 15 [.agg (encQ q).toArray, .int .i64 most] [] fun w H => (∃ n : Nat, w = .int .i64 n ∧ n ≤ sizeQ q.key) ∧ H = []
set_option maxRecDepth 10000 in
set_option maxHeartbeats 2000000 in
theorem queriesOf_of (r : Hp) (v : Value) (l : List QuV) (most : Int) (hv : Els r 3 encQ v l) (hq : ∀ q ∈ l, QuR r q) (hs : sizeQs (l.map QuV.key) ≤ 10000000) (hm : -10000000 ≤ most ∧ most ≤ 10000000) (ih : ∀ q ∈ l, CountQ q) : Tri Tryd.prog r 6 [v, .int .i64 most] [] fun w H => (∃ n : Nat, w = .int .i64 n ∧ n ≤ sizeQs (l.map QuV.key)) ∧ H = [] := by
  refine Tri.free2 fun R HR => ?_
  have hlm := maxI hv.2.2.1
  refine fn_of_sw Tryd.func6 rfl _ rfl ?_; refine aen Tryd.ntmps6 ?_
  repeat' (first | refine aw0m ?_ | (refine ap2 ?_ ?_ <;> try intro h) | refine aw1m ?_ | (refine abx ?_; intro bb) | (refine abz ?_; intro bz) | (refine ahv ?_; intro v' hv') | (refine aac ?_; intro ac cc) | refine aw2 ?_ | (refine ap4 ?_ ?_ <;> try intro h) | apply True.intro)
  refine sw_loop (fun gm t H' => ∃ (k n : Nat), gm = l.length + 1 - k ∧ (k ≤ l.length) ∧ (n ≤ sizeQs ((l.take k).map QuV.key)) ∧ (∃ G, Takes [] H' G) ∧ Sls t 29 [(0, v), (1, .int .i64 most), (5, .int .i64 n), (6, .int .i64 k)]) _ ⟨0, 0, rfl, Nat.zero_le _, Nat.zero_le _, ⟨[], by (exact atks)⟩, asls⟩ ?_
  rintro gm t H' ⟨k, n, rfl, hk, hn, ⟨G, hp⟩, hs'⟩
  revert t; refine sls_all ?_; iterate 25 intro uu'
  refine sw_takeG hp ?_; clear hp
  have hsa := sizeQs_app ((l.take k).map QuV.key) ((l.drop k).map QuV.key)
  rw [← List.map_append, List.take_append_drop] at hsa
  by_cases hlt : k < l.length
  · obtain ⟨q, hx⟩ : ∃ q, l.getD k default = q := ⟨_, rfl⟩
    have hqm : q ∈ l := hx ▸ getD_memU hlt
    have hst : sizeQs ((l.take (k + 1)).map QuV.key) = sizeQs ((l.take k).map QuV.key) + sizeQ q.key := by
      rw [take_getD (d := default) hlt, hx, List.map_append, sizeQs_app]; simp [sizeQs]
    have hsm := sizeQs_mem (List.mem_map_of_mem (f := QuV.key) hqm)
    by_cases hnm : (n : Int) ≤ most
    · have hc := ih q hqm r (most - n) (hq q hqm) (by omega)
      have hc' : Tri Tryd.prog r 15 [.agg [.int .i64 q.kind, q.gv, q.sv].toArray, .int .i64 (most - n)] [] _ := hc
      repeat' (first | (rw [hx, show encQ q = [.int .i64 q.kind, q.gv, q.sv] from rfl]) | (refine acl Tryd.func15 ?_; refine acr (hc') ?_; rintro v' H' ⟨⟨m, rfl, hm2⟩, rfl⟩; all_goals refine apl ?_) | (exfalso; first | contradiction | omega) | refine aw0 ?_ | (refine ap2 ?_ ?_ <;> try intro h) | refine aw1 ?_ | (refine abx ?_; intro bb) | (refine abz ?_; intro bz) | (refine ahv ?_; intro v' hv') | (refine aac ?_; intro ac cc) | refine aw2 ?_ | (refine ap4 ?_ ?_ <;> try intro h) | apply True.intro)
      exact ⟨_, by omega, k + 1, n + m, rfl, by omega, by rw [hst]; omega, ⟨[], by (exact atks)⟩, asls⟩
    · repeat' (first | (exfalso; first | contradiction | omega) | refine aw0 ?_ | (refine ap2 ?_ ?_ <;> try intro h) | refine aw1 ?_ | (refine abx ?_; intro bb) | (refine abz ?_; intro bz) | (refine ahv ?_; intro v' hv') | (refine aac ?_; intro ac cc) | refine aw2 ?_ | (refine ap4 ?_ ?_ <;> try intro h) | apply True.intro)
      ((with_reducible apply fp_ret); exact res_1 rfl rfl)
      exact HR.out _ _ _ [] (by (exact atks)) ⟨⟨_, rfl, by omega⟩, rfl⟩
  · obtain rfl : k = l.length := by omega
    rw [List.take_length] at hn
    repeat' (first | (exfalso; first | contradiction | omega) | refine aw0 ?_ | (refine ap2 ?_ ?_ <;> try intro h) | refine aw1 ?_ | (refine abx ?_; intro bb) | (refine abz ?_; intro bz) | (refine ahv ?_; intro v' hv') | (refine aac ?_; intro ac cc) | refine aw2 ?_ | (refine ap4 ?_ ?_ <;> try intro h) | apply True.intro)
    ((with_reducible apply fp_ret); exact res_1 rfl rfl)
    exact HR.out _ _ _ [] (by (exact atks)) ⟨⟨_, rfl, hn⟩, rfl⟩
set_option maxRecDepth 10000 in
set_option maxHeartbeats 2000000 in
theorem queryOf_any : ∀ q : QuV, sizeQ q.key ≤ 9000000 → CountQ q
  | .mk k gv gs sv ss, hs => by
    have ih : ∀ s ∈ ss, sizeQ s.key ≤ 9000000 → CountQ s := fun s _h => queryOf_any s
    intro r most hq hm
    obtain ⟨h1, h2, h3⟩ := quR_iff.1 hq
    have hsz : 1 + sizeT gs + sizeQs (ss.map QuV.key) ≤ 9000000 := by rw [key_mk] at hs; unfold sizeQ at hs; exact hs
    have ih' : ∀ s ∈ ss, CountQ s := fun s h => ih s h (by have := sizeQs_mem (List.mem_map_of_mem (f := QuV.key) h); omega)
    have ht := fun r' (h : sub r r') => textsOf_any r' gv gs most (h1.mono h) (by omega) hm
    have hqs := fun r' (h : sub r r') => queriesOf_of r' sv ss most (h2.mono h) (fun q hq => (h3 q hq).mono h) (by omega) hm ih'
    rw [key_mk]
    refine Tri.free2 fun R HR => ?_
    unfold sizeQ at HR
    show Tri _ _ _ [.agg [.int .i64 k, gv, sv].toArray, _] _ _
    refine fn_of_sw Tryd.func15 rfl _ rfl ?_; refine aen Tryd.ntmps15 ?_
    repeat' (first | ((with_reducible apply kx_box); rfl; (exact qcl); intro b2; (refine apk ?_)) | ((with_reducible apply sw_draw (id := 1) 10 [(0, true), (1, true), (2, true), (5, true), (6, true), (7, true), (3, false), (4, true), (8, false), (9, true)] [(10, false)] [(b2, .cells [.int .i64 k, gv, sv].toArray 30 (0, 0))]); kernel_rfl; (exact atks); kernel_rfl; intro r' hl') | (refine acl Tryd.func7 ?_; refine acr (ht _ hl'.1) ?_; rintro v' H' ⟨⟨n, rfl, hn⟩, rfl⟩; all_goals refine apl ?_) | (refine acl Tryd.func6 ?_; refine acr (hqs _ hl'.1) ?_; rintro v' H' ⟨⟨m, rfl, hm2⟩, rfl⟩; all_goals refine apl ?_) | (exfalso; first | contradiction | omega) | refine aw0 ?_ | (refine ap2 ?_ ?_ <;> try intro h) | refine aw1 ?_ | (refine abx ?_; intro bb) | (refine abz ?_; intro bz) | (refine ahv ?_; intro v' hv') | (refine aac ?_; intro ac cc) | refine aw2 ?_ | (refine ap4 ?_ ?_ <;> try intro h) | apply True.intro)
    ((with_reducible apply fp_ret); exact res_1 rfl rfl)
    exact HR.out _ _ _ [] (by (exact atks)) ⟨⟨1 + n + m, by first | (congr 1; done) | (congr 1; omega) | fail, by omega⟩, rfl⟩
termination_by q => SizeOf.sizeOf q
decreasing_by
  have := List.sizeOf_lt_of_mem _h
  simp only [QuV.mk.sizeOf_spec]
  omega
theorem queriesOf_any (r : Hp) (v : Value) (l : List QuV) (most : Int) (hv : Els r 3 encQ v l) (hq : ∀ q ∈ l, QuR r q) (hs : sizeQs (l.map QuV.key) ≤ 9000000) (hm : -10000000 ≤ most ∧ most ≤ 10000000) : Tri Tryd.prog r 6 [v, .int .i64 most] [] fun w H => (∃ n : Nat, w = .int .i64 n ∧ n ≤ sizeQs (l.map QuV.key)) ∧ H = [] :=
  queriesOf_of r v l most hv hq (by omega) hm fun q h => queryOf_any q (by have := sizeQs_mem (List.mem_map_of_mem (f := QuV.key) h); omega)
end Go.Proofs.YtgodcegaffgfjaaDoor
