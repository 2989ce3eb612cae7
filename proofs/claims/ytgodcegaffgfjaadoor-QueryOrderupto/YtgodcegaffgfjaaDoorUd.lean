
/- Texts and queries compared (mudlarkkit), query.lone: their contracts. -/
import Derived.Test.YtgodcegaffgfjaaDoorUc
namespace Go.Proofs.YtgodcegaffgfjaaDoor
open Go.RowKit Sx

theorem take_eqU {α : Type} [Inhabited α] {l m : List α} {k : Nat} (h1 : k < l.length) (h2 : k < m.length) (ht : l.take k = m.take k) (h : l.getD k default = m.getD k default) : l.take (k + 1) = m.take (k + 1) := by
  rw [take_getD (d := default) h1, take_getD (d := default) h2, ht, h]
set_option maxRecDepth 10000 in
set_option maxHeartbeats 2000000 in
theorem sameTexts_any (r : Hp) (v w : Value) (l m : List Tx) (hv : Els r 1 encTx v l) (hw : Els r 1 encTx w m) : Tri Tryd.prog r 24 [v, w] [] fun u H => u = .bool (decide (l = m)) ∧ H = [] := by
  refine Tri.free2 fun R HR => ?_
  have hlm := maxI hv.2.2.1
  by_cases hl : l.length = m.length
  · refine fn_of_sw Tryd.func24 rfl _ rfl ?_; refine aen Tryd.ntmps24 ?_
    repeat' (first | (exfalso; first | contradiction | omega) | refine aw0 ?_ | (refine ap2 ?_ ?_ <;> try intro h) | refine aw1 ?_ | (refine abx ?_; intro bb) | (refine abz ?_; intro bz) | (refine ahv ?_; intro v' hv') | (refine aac ?_; intro ac cc) | refine aw2 ?_ | (refine ap4 ?_ ?_ <;> try intro h) | apply True.intro)
    refine sw_loop (fun gm t H' => ∃ k : Nat, gm = l.length + 1 - k ∧ (k ≤ l.length) ∧ (l.take k = m.take k) ∧ (∃ G, Takes [] H' G) ∧ Sls t 26 [(0, v), (1, w), (5, .int .i64 k)]) _ ⟨0, rfl, Nat.zero_le _, rfl, ⟨[], by (exact atks)⟩, asls⟩ ?_
    rintro gm t H' ⟨k, rfl, hk, ht, ⟨G, hp⟩, hs'⟩
    revert t; refine sls_all ?_; iterate 23 intro uu'
    refine sw_takeG hp ?_; clear hp
    by_cases hlt : k < l.length
    · by_cases he : l.getD k default = m.getD k default
      · repeat' (first | (first | ((with_reducible apply sw_draw (id := 6) 9 [(0, true), (1, true), (2, true), (3, true), (4, true), (5, true), (6, true), (7, true), (8, true)] [] []); kernel_rfl; (exact atks); kernel_rfl; intro r' hl')) | (exfalso; first | contradiction | omega) | refine aw0 ?_ | (refine ap2 ?_ ?_ <;> try intro h) | refine aw1 ?_ | (refine abx ?_; intro bb) | (refine abz ?_; intro bz) | (refine ahv ?_; intro v' hv') | (refine aac ?_; intro ac cc) | refine aw2 ?_ | (refine ap4 ?_ ?_ <;> try intro h) | apply True.intro)
        exact ⟨_, by omega, k + 1, rfl, by omega, take_eqU hlt (by omega) ht he, ⟨[], by (exact atks)⟩, asls⟩
      · repeat' (first | (first | ((with_reducible apply sw_draw (id := 6) 9 [(0, true), (1, true), (2, true), (3, true), (4, true), (5, true), (6, true), (7, true), (8, true)] [] []); kernel_rfl; (exact atks); kernel_rfl; intro r' hl')) | (exfalso; first | contradiction | omega) | refine aw0 ?_ | (refine ap2 ?_ ?_ <;> try intro h) | refine aw1 ?_ | (refine abx ?_; intro bb) | (refine abz ?_; intro bz) | (refine ahv ?_; intro v' hv') | (refine aac ?_; intro ac cc) | refine aw2 ?_ | (refine ap4 ?_ ?_ <;> try intro h) | apply True.intro)
        ((with_reducible apply fp_ret); exact res_1 rfl rfl)
        exact HR.out _ _ _ [] (by (exact atks)) ⟨by rw [decide_eq_false]; exact fun e => he (by rw [e]), rfl⟩
    · obtain rfl : k = l.length := by omega
      rw [List.take_length, hl, List.take_length] at ht
      repeat' (first | (exfalso; first | contradiction | omega) | refine aw0 ?_ | (refine ap2 ?_ ?_ <;> try intro h) | refine aw1 ?_ | (refine abx ?_; intro bb) | (refine abz ?_; intro bz) | (refine ahv ?_; intro v' hv') | (refine aac ?_; intro ac cc) | refine aw2 ?_ | (refine ap4 ?_ ?_ <;> try intro h) | apply True.intro)
      ((with_reducible apply fp_ret); exact res_1 rfl rfl)
      exact HR.out _ _ _ [] (by (exact atks)) ⟨by rw [decide_eq_true ht], rfl⟩
  · refine fn_of_sw Tryd.func24 rfl _ rfl ?_; refine aen Tryd.ntmps24 ?_
    repeat' (first | (exfalso; first | contradiction | omega) | refine aw0 ?_ | (refine ap2 ?_ ?_ <;> try intro h) | refine aw1 ?_ | (refine abx ?_; intro bb) | (refine abz ?_; intro bz) | (refine ahv ?_; intro v' hv') | (refine aac ?_; intro ac cc) | refine aw2 ?_ | (refine ap4 ?_ ?_ <;> try intro h) | apply True.intro)
    ((with_reducible apply fp_ret); exact res_1 rfl rfl)
    exact HR.out _ _ _ [] (by (exact atks)) ⟨by rw [decide_eq_false]; exact fun e => hl (by rw [e]), rfl⟩
theorem keys_at {l m : List QuV} (e : l.map QuV.key = m.map QuV.key) {k : Nat} (h1 : k < l.length) : (l.getD k default).key = (m.getD k default).key := by
  have h2 : k < m.length := by have := congrArg List.length e; simp at this; omega
  have e1 := congrArg (fun l => l[k]?) e
  simp only [List.getElem?_map] at e1
  rw [List.getElem?_eq_getElem h1, List.getElem?_eq_getElem h2] at e1
  simp only [Option.map_some, Option.some.injEq] at e1
  rw [List.getD_eq_getElem?_getD, List.getElem?_eq_getElem h1, List.getD_eq_getElem?_getD, List.getElem?_eq_getElem h2]
  exact e1
def SameQ (p : QuV) : Prop := ∀ (r : Hp) (q : QuV), QuR r p → QuR r q → Tri Tryd.prog r 12 [.agg (encQ p).toArray, .agg (encQ q).toArray] [] fun w H => (∃ b : Bool, w = .bool b ∧ (b = true ↔ p.key = q.key)) ∧ H = []
set_option maxRecDepth 10000 in
set_option maxHeartbeats 2000000 in
theorem sameQueries_of (r : Hp) (v w : Value) (l m : List QuV) (hv : Els r 3 encQ v l) (hw : Els r 3 encQ w m) (hp : ∀ q ∈ l, QuR r q) (hq : ∀ q ∈ m, QuR r q) (ih : ∀ q ∈ l, SameQ q) : Tri Tryd.prog r 25 [v, w] [] fun u H => (∃ b : Bool, u = .bool b ∧ (b = true ↔ l.map QuV.key = m.map QuV.key)) ∧ H = [] := by
  refine Tri.free2 fun R HR => ?_
  have hlm := maxI hv.2.2.1
  have hle : l.map QuV.key = m.map QuV.key → l.length = m.length := fun h => by have := congrArg List.length h; simpa using this
  by_cases hl : l.length = m.length
  · refine fn_of_sw Tryd.func25 rfl _ rfl ?_; refine aen Tryd.ntmps25 ?_
    repeat' (first | (exfalso; first | contradiction | omega) | refine aw0 ?_ | (refine ap2 ?_ ?_ <;> try intro h) | refine aw1 ?_ | (refine abx ?_; intro bb) | (refine abz ?_; intro bz) | (refine ahv ?_; intro v' hv') | (refine aac ?_; intro ac cc) | refine aw2 ?_ | (refine ap4 ?_ ?_ <;> try intro h) | apply True.intro)
    refine sw_loop (fun gm t H' => ∃ k : Nat, gm = l.length + 1 - k ∧ (k ≤ l.length) ∧ ((l.take k).map QuV.key = (m.take k).map QuV.key) ∧ (∃ G, Takes [] H' G) ∧ Sls t 27 [(0, v), (1, w), (5, .int .i64 k)]) _ ⟨0, rfl, Nat.zero_le _, rfl, ⟨[], by (exact atks)⟩, asls⟩ ?_
    rintro gm t H' ⟨k, rfl, hk, ht, ⟨G, hp⟩, hs'⟩
    revert t; refine sls_all ?_; iterate 24 intro uu'
    refine sw_takeG hp ?_; clear hp
    by_cases hlt : k < l.length
    · obtain ⟨p, hx⟩ : ∃ p, l.getD k default = p := ⟨_, rfl⟩
      obtain ⟨q, hy⟩ : ∃ q, m.getD k default = q := ⟨_, rfl⟩
      have hpm : p ∈ l := hx ▸ getD_memU hlt
      have hqm : q ∈ m := hy ▸ getD_memU (by omega)
      have hkl : l.map QuV.key = m.map QuV.key → p.key = q.key := fun e => by
        rw [← hx, ← hy]
        exact keys_at e hlt
      by_cases hkq : p.key = q.key
      · have hc : ∀ r' (h : sub r r'), Tri Tryd.prog r' 12 [.agg [.int .i64 p.kind, p.gv, p.sv].toArray, .agg [.int .i64 q.kind, q.gv, q.sv].toArray] [] fun w H => w = .bool true ∧ H = [] := fun r' h => (ih p hpm r' q ((hp p hpm).mono h) ((hq q hqm).mono h)).mono (by
          rintro w H ⟨⟨b, rfl, hb⟩, rfl⟩
          rw [hb.2 hkq]
          exact ⟨rfl, rfl⟩)
        repeat' (first | (rw [hx]) | (rw [hy]) | (rw [show encQ p = [.int .i64 p.kind, p.gv, p.sv] from rfl]) | (rw [show encQ q = [.int .i64 q.kind, q.gv, q.sv] from rfl]) | (first | ((with_reducible apply sw_draw (id := 6) 10 [(0, true), (1, true), (2, true), (3, true), (4, true), (5, true), (6, true), (7, true), (8, false), (9, true)] [] []); kernel_rfl; (exact atks); kernel_rfl; intro r' hl')) | (refine acl Tryd.func12 ?_; refine acr (hc _ hl'.1) ?_; rintro v' H' ⟨rfl, rfl⟩; all_goals refine apl ?_) | (exfalso; first | contradiction | omega) | refine aw0 ?_ | (refine ap2 ?_ ?_ <;> try intro h) | refine aw1 ?_ | (refine abx ?_; intro bb) | (refine abz ?_; intro bz) | (refine ahv ?_; intro v' hv') | (refine aac ?_; intro ac cc) | refine aw2 ?_ | (refine ap4 ?_ ?_ <;> try intro h) | apply True.intro)
        exact ⟨_, by omega, k + 1, rfl, by omega, by rw [take_getD (d := default) hlt, take_getD (d := default) (show k < m.length by omega), List.map_append, List.map_append, ht, hx, hy, List.map_singleton, List.map_singleton, hkq], ⟨[], by (exact atks)⟩, asls⟩
      · have hc : ∀ r' (h : sub r r'), Tri Tryd.prog r' 12 [.agg [.int .i64 p.kind, p.gv, p.sv].toArray, .agg [.int .i64 q.kind, q.gv, q.sv].toArray] [] fun w H => w = .bool false ∧ H = [] := fun r' h => (ih p hpm r' q ((hp p hpm).mono h) ((hq q hqm).mono h)).mono (by
          rintro w H ⟨⟨b, rfl, hb⟩, rfl⟩
          cases b
          · exact ⟨rfl, rfl⟩
          · exact absurd (hb.1 rfl) hkq)
        repeat' (first | (rw [hx]) | (rw [hy]) | (rw [show encQ p = [.int .i64 p.kind, p.gv, p.sv] from rfl]) | (rw [show encQ q = [.int .i64 q.kind, q.gv, q.sv] from rfl]) | (first | ((with_reducible apply sw_draw (id := 6) 10 [(0, true), (1, true), (2, true), (3, true), (4, true), (5, true), (6, true), (7, true), (8, false), (9, true)] [] []); kernel_rfl; (exact atks); kernel_rfl; intro r' hl')) | (refine acl Tryd.func12 ?_; refine acr (hc _ hl'.1) ?_; rintro v' H' ⟨rfl, rfl⟩; all_goals refine apl ?_) | (exfalso; first | contradiction | omega) | refine aw0 ?_ | (refine ap2 ?_ ?_ <;> try intro h) | refine aw1 ?_ | (refine abx ?_; intro bb) | (refine abz ?_; intro bz) | (refine ahv ?_; intro v' hv') | (refine aac ?_; intro ac cc) | refine aw2 ?_ | (refine ap4 ?_ ?_ <;> try intro h) | apply True.intro)
        ((with_reducible apply fp_ret); exact res_1 rfl rfl)
        exact HR.out _ _ _ [] (by (exact atks)) ⟨⟨false, rfl, ⟨fun h => (by cases h), fun e => absurd (hkl e) hkq⟩⟩, rfl⟩
    · obtain rfl : k = l.length := by omega
      rw [List.take_length, hl, List.take_length] at ht
      repeat' (first | (exfalso; first | contradiction | omega) | refine aw0 ?_ | (refine ap2 ?_ ?_ <;> try intro h) | refine aw1 ?_ | (refine abx ?_; intro bb) | (refine abz ?_; intro bz) | (refine ahv ?_; intro v' hv') | (refine aac ?_; intro ac cc) | refine aw2 ?_ | (refine ap4 ?_ ?_ <;> try intro h) | apply True.intro)
      ((with_reducible apply fp_ret); exact res_1 rfl rfl)
      exact HR.out _ _ _ [] (by (exact atks)) ⟨⟨true, rfl, ⟨fun _ => ht, fun _ => rfl⟩⟩, rfl⟩
  · refine fn_of_sw Tryd.func25 rfl _ rfl ?_; refine aen Tryd.ntmps25 ?_
    repeat' (first | (exfalso; first | contradiction | omega) | refine aw0 ?_ | (refine ap2 ?_ ?_ <;> try intro h) | refine aw1 ?_ | (refine abx ?_; intro bb) | (refine abz ?_; intro bz) | (refine ahv ?_; intro v' hv') | (refine aac ?_; intro ac cc) | refine aw2 ?_ | (refine ap4 ?_ ?_ <;> try intro h) | apply True.intro)
    ((with_reducible apply fp_ret); exact res_1 rfl rfl)
    exact HR.out _ _ _ [] (by (exact atks)) ⟨⟨false, rfl, ⟨fun h => (by cases h), fun e => absurd (hle e) hl⟩⟩, rfl⟩
set_option maxRecDepth 10000 in
set_option maxHeartbeats 2000000 in
theorem sameQ_all : ∀ p : QuV, SameQ p
  | .mk k gv gs sv ss => by
    have ih : ∀ s ∈ ss, SameQ s := fun s _h => sameQ_all s
    rintro r ⟨k', gv', gs', sv', ss'⟩ hp hq
    obtain ⟨h1, h2, h3⟩ := quR_iff.1 hp
    obtain ⟨g1, g2, g3⟩ := quR_iff.1 hq
    have ht := sameTexts_any r gv gv' gs gs' h1 g1
    have hqs := sameQueries_of r sv sv' ss ss' h2 g2 h3 g3 ih
    rw [key_mk, key_mk]
    refine Tri.free2 fun R HR => ?_
    show Tri _ _ _ [.agg [.int .i64 k, gv, sv].toArray, .agg [.int .i64 k', gv', sv'].toArray] _ _
    by_cases hk : k = k'
    · by_cases hg : gs = gs'
      · rw [decide_eq_true hg] at ht
        refine fn_of_sw Tryd.func12 rfl _ rfl ?_; refine aen Tryd.ntmps12 ?_
        repeat' (first | (refine acl Tryd.func24 ?_; refine acr (ht) ?_; rintro v' H' ⟨rfl, rfl⟩; all_goals refine apl ?_) | (refine acl Tryd.func25 ?_; refine acr (hqs) ?_; rintro v' H' ⟨⟨b, rfl, hb⟩, rfl⟩; all_goals refine apl ?_) | (exfalso; first | contradiction | omega) | refine aw0 ?_ | (refine ap2 ?_ ?_ <;> try intro h) | refine aw1 ?_ | (refine abx ?_; intro bb) | (refine abz ?_; intro bz) | (refine ahv ?_; intro v' hv') | (refine aac ?_; intro ac cc) | refine aw2 ?_ | (refine ap4 ?_ ?_ <;> try intro h) | apply True.intro)
        ((with_reducible apply fp_ret); exact res_1 rfl rfl)
        exact HR.out _ _ _ [] Takes.all ⟨⟨b, rfl, by rw [hb, hk, hg]; simp⟩, rfl⟩
      · rw [decide_eq_false hg] at ht
        refine fn_of_sw Tryd.func12 rfl _ rfl ?_; refine aen Tryd.ntmps12 ?_
        repeat' (first | (refine acl Tryd.func24 ?_; refine acr (ht) ?_; rintro v' H' ⟨rfl, rfl⟩; all_goals refine apl ?_) | (exfalso; first | contradiction | omega) | refine aw0 ?_ | (refine ap2 ?_ ?_ <;> try intro h) | refine aw1 ?_ | (refine abx ?_; intro bb) | (refine abz ?_; intro bz) | (refine ahv ?_; intro v' hv') | (refine aac ?_; intro ac cc) | refine aw2 ?_ | (refine ap4 ?_ ?_ <;> try intro h) | apply True.intro)
        ((with_reducible apply fp_ret); exact res_1 rfl rfl)
        exact HR.out _ _ _ [] Takes.all ⟨⟨false, rfl, ⟨fun h => (by cases h), fun e => absurd (congrArg Qu.grams e) hg⟩⟩, rfl⟩
    · refine fn_of_sw Tryd.func12 rfl _ rfl ?_; refine aen Tryd.ntmps12 ?_
      repeat' (first | (exfalso; first | contradiction | omega) | refine aw0 ?_ | (refine ap2 ?_ ?_ <;> try intro h) | refine aw1 ?_ | (refine abx ?_; intro bb) | (refine abz ?_; intro bz) | (refine ahv ?_; intro v' hv') | (refine aac ?_; intro ac cc) | refine aw2 ?_ | (refine ap4 ?_ ?_ <;> try intro h) | apply True.intro)
      ((with_reducible apply fp_ret); exact res_1 rfl rfl)
      exact HR.out _ _ _ [] Takes.all ⟨⟨false, rfl, ⟨fun h => (by cases h), fun e => absurd (congrArg Qu.kind e) hk⟩⟩, rfl⟩
termination_by p => SizeOf.sizeOf p
decreasing_by
  have := List.sizeOf_lt_of_mem _h
  simp only [QuV.mk.sizeOf_spec]
  omega
theorem sameQuery_any (r : Hp) (p q : QuV) (hp : QuR r p) (hq : QuR r q) : Tri Tryd.prog r 12 [.agg (encQ p).toArray, .agg (encQ q).toArray] [] fun w H => (∃ b : Bool, w = .bool b ∧ (b = true ↔ p.key = q.key)) ∧ H = [] := sameQ_all p r q hp hq
set_option maxRecDepth 10000 in
set_option maxHeartbeats 2000000 in
theorem lone_any (r : Hp) (q : QuV) (hq : QuR r q) : Tri Tryd.prog r 16 [.agg (encQ q).toArray] [] fun w H => w = .bool (loneQ q.key) ∧ H = [] := by
  obtain ⟨k, gv, gs, sv, ss⟩ := q
  obtain ⟨h1, h2, h3⟩ := quR_iff.1 hq
  have h1 : Els r 1 encTx gv gs := h1
  have h2 : Els r 3 encQ sv ss := h2
  rw [key_mk]
  refine Tri.free2 fun R HR => ?_
  have hq : loneQ (.mk k gs (ss.map QuV.key)) = (decide (k = 3) && decide (gs.length = 1) && decide (ss.length = 0)) := by
    show (decide (k = 3) && decide (gs.length = 1) && decide ((ss.map QuV.key).length = 0)) = _
    congr 1
    rw [decide_eq_decide, List.length_map]
  rw [hq] at HR
  show Tri _ _ _ [.agg [.int .i64 k, gv, sv].toArray] _ _
  by_cases h3 : k = 3 <;> by_cases h4 : gs.length = 1 <;> by_cases h5 : ss.length = 0
  all_goals
    refine fn_of_sw Tryd.func16 rfl _ rfl ?_; refine aen Tryd.ntmps16 ?_
    repeat' (first | (exfalso; first | contradiction | omega) | refine aw0 ?_ | (refine ap2 ?_ ?_ <;> try intro h) | refine aw1 ?_ | (refine abx ?_; intro bb) | (refine abz ?_; intro bz) | (refine ahv ?_; intro v' hv') | (refine aac ?_; intro ac cc) | refine aw2 ?_ | (refine ap4 ?_ ?_ <;> try intro h) | apply True.intro)
    ((with_reducible apply fp_ret); exact res_1 rfl rfl)
    exact HR.out _ _ _ [] Takes.all ⟨by simp [h3, h4, h5], rfl⟩
end Go.Proofs.YtgodcegaffgfjaaDoor
