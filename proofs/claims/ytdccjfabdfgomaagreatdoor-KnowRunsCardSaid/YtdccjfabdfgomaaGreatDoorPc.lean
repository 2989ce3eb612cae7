
/- mudlarklaw17.KnowRuns: for every input it returns true. -/
import Derived.Test.YtdccjfabdfgomaaGreatDoorOy
import Derived.Test.YtdccjfabdfgomaaGreatDoorOm
import Derived.Test.YtdccjfabdfgomaaGreatDoorUd
import Derived.Test.YtdccjfabdfgomaaGreatDoorPb
namespace Go.Proofs.YtdccjfabdfgomaaGreatDoor
open Go.RowKit Go.Maps Sx

theorem subs_nil {q : QuV} {S : List Tx} (h : q.key = .mk 3 S []) : q.subs.length = 0 ∧ q.kind = 3 := by
  have e1 := key_subs q
  have e2 := key_kind q
  rw [h] at e1 e2
  have e3 := congrArg List.length e1
  rw [List.length_map] at e3
  exact ⟨e3.symm, e2.symm⟩
set_option maxRecDepth 10000 in
set_option maxHeartbeats 8000000 in
theorem knowRuns_of (r : Hp) (hT : TabR r) (haw : Tri Tryz.prog r 4 [] [] fun w H => w = .bool true ∧ H = []) (s : Tx) (hs0 : s.length ≤ 140737488351232) : Tri Tryz.prog r 3 [.string (bs s)] [] fun w H => w = .bool true ∧ H = [] := by
  by_cases hs : s.length ≤ 300
  · obtain ⟨l1, l2, l3, l4, l5⟩ := runs_law s
    have htx := text17_any r s (by omega)
    have hofF : ∀ (a : Option Addr) (c : Nat), Tri Tryz.prog r 5 [.agg [.int .i64 4, .int .u64 0, .int .u64 0, .int .u64 0, .int .u64 0, .slice a s.length c, .int .i64 0, .int .i64 0, .bool false, .int .i64 0].toArray] [KidC a c s] fun w H => ∃ u : InfV, u.key = ofI (textN s) ∧ (encQ u.q).all one? = true ∧ w = .agg [.bool u.known, .slice u.ea u.ex.length u.ec, .slice u.pa u.pre.length u.pc, .slice u.sa u.suf.length u.sc, .int .i64 u.q.kind, u.q.gv, u.q.sv].toArray ∧ H = [OwnI u] := fun a c => Tri.frz fun r' g s1 t1 h => by
      have h2 := of_ok (textV a c s) (by rw [textV_key]; exact ok_text s (by omega)) r' (hT.mono s1) (textV_read h t1)
      rw [textV_key] at h2
      exact h2
    have hcl : ∀ u : InfV, u.key = ofI (textN s) → (encQ u.q).all one? = true → Tri Tryz.prog r 7 [.agg [.bool u.known, .slice u.ea u.ex.length u.ec, .slice u.pa u.pre.length u.pc, .slice u.sa u.suf.length u.sc, .int .i64 u.q.kind, u.q.gv, u.q.sv].toArray] [OwnI u] fun w H => ∃ q : QuV, q.key = closedK (ofI (textN s)) ∧ (encQ q).all one? = true ∧ w = .agg [.int .i64 q.kind, q.gv, q.sv].toArray ∧ H = [OwnQ q] := fun u h1 h2 => Tri.frz fun r' g s1 t1 h => by
      have h3 := closed_any r' (hT.mono s1) u (ownI_read h t1) (by rw [h1, of_text]; exact fit_lit (by omega)) h2
      rw [h1] at h3
      exact h3
    have hgg : ∀ r' g (a : Option Addr) (c : Nat), sub g r' → RdC (.slice a s.length c) s g → Tri Tryz.prog r' 9 [.slice a s.length c] [] fun w H => ∃ a c, w = .slice a (sortBy id (partsT s)).length c ∧ H = [TxC a c (sortBy id (partsT s))] := fun r' g a c h1 h2 => ggrams_any r' _ s (Sl.mono h2 h1) (by omega)
    obtain ⟨I, hI⟩ : ∃ I, ofI (textN s) = I := ⟨_, rfl⟩
    obtain ⟨S, hS⟩ : ∃ S, sortBy id (partsT s) = S := ⟨_, rfl⟩
    rw [hI] at l1 l2 l3 l4 l5 hofF hcl
    rw [hS] at l5 hgg
    obtain ⟨C, hC⟩ : ∃ C, closedK I = C := ⟨_, rfl⟩
    rw [hC] at l4 l5 hcl
    clear hI hS hC
    have hst : ∀ r' g1 g2 (q : QuV) (a : Option Addr) (c : Nat), q.key = .mk 3 S [] → OwnQ q g1 → sub g1 r' → TxC a c S g2 → sub g2 r' → Tri Tryz.prog r' 8 [q.gv, .slice a S.length c] [] fun u H => u = .bool true ∧ H = [] := fun r' g1 g2 q a c k h1 t1 h2 t2 => by
      have hq := (quR_iff.1 (own_read h1 t1)).1
      have e : q.grams = S := by rw [← key_grams, k]; rfl
      have h := sameTexts_any r' _ _ _ _ hq (txC_els h2 t2)
      rw [e, decide_eq_true rfl] at h
      exact h
    have hfp : ∀ u : InfV, u.key = I → u.pre.length ≤ 8 := fun u h => by rw [← h] at l2; exact l2
    have hfs : ∀ u : InfV, u.key = I → u.suf.length ≤ 8 := fun u h => by rw [← h] at l3; exact l3
    have hfk : ∀ u : InfV, u.key = I → u.known = decide (s.length ≤ 40) := fun u h => by rw [← l1, ← h]; rfl
    clear l1 l2 l3
    refine Tri.free2 fun R HR => ?_
    refine fn_of_sw Tryz.func3 rfl _ rfl ?_; refine aen Tryz.ntmps3 ?_
    by_cases h40 : s.length ≤ 40
    · rw [decide_eq_true h40] at hfk
      have d40 : decide (((s.length : Nat) : Int) ≤ 40) = true := decide_eq_true (by omega)
      by_cases h3 : s.length < 3
      · have l4' := l4 h3
        repeat' (first | (rw [d40]) | (rw [e1]) | (refine acl Tryz.func4 ?_; refine acr (haw) ?_; rintro v' H' ⟨rfl, rfl⟩; all_goals refine apl ?_) | (refine acl Tryz.func6 ?_; refine acr (htx) ?_; rintro v' H' ⟨a, c, rfl, rfl⟩; all_goals refine apl ?_) | (refine acl Tryz.func5 ?_; refine acr (hofF a c) ?_; rintro v' H' ⟨u, hu1, hu2, rfl, rfl⟩; have e1 := hfk u hu1; have e2 := hfp u hu1; have e3 := hfs u hu1; have hc2 := hcl u hu1 hu2; rw [e1] at hc2; all_goals refine apl ?_) | ((with_reducible apply kx_alloc (E := 29)); exact ty_zero; (exact qcl); intro b3; (refine apk ?_)) | ((with_reducible apply kx_storeN); exact ty_size; rfl; rfl; rfl; (exact qsw); exact encI_one hu2; (exact qst); (refine apk ?_)) | (refine acl Tryz.func7 ?_; refine acr (hc2) ?_; rintro v' H' ⟨q, hq1, hq2, rfl, rfl⟩; have hqk : q.kind = 1 := (by rw [← key_kind, hq1]; exact l4'); all_goals refine apl ?_) | ((with_reducible apply kx_alloc (E := 27)); exact ty_zero; (exact qcl); intro b4; (refine apk ?_)) | ((with_reducible apply kx_storeN); exact ty_size; rfl; rfl; rfl; (exact qsw); exact one3 hq2; (exact qst); (refine apk ?_)) | (exfalso; first | contradiction | omega) | refine aw0 ?_ | (refine ap2 ?_ ?_ <;> try intro h) | refine aw1 ?_ | (refine abx ?_; intro bb) | (refine abz ?_; intro bz) | (refine ahv ?_; intro v' hv') | (refine aac ?_; intro ac cc) | refine aw2 ?_ | (refine ap4 ?_ ?_ <;> try intro h) | apply True.intro)
        ((with_reducible apply fp_ret); exact res_1 rfl rfl)
        exact HR.out _ _ _ [] (by (exact atks)) ⟨by rw [decide_eq_true hqk], rfl⟩
      · have l5' := l5 (by omega)
        repeat' (first | (rw [d40]) | (rw [e1]) | (refine acl Tryz.func4 ?_; refine acr (haw) ?_; rintro v' H' ⟨rfl, rfl⟩; all_goals refine apl ?_) | (refine acl Tryz.func6 ?_; refine acr (htx) ?_; rintro v' H' ⟨a, c, rfl, rfl⟩; all_goals refine apl ?_) | (refine acl Tryz.func5 ?_; refine acr (hofF a c) ?_; rintro v' H' ⟨u, hu1, hu2, rfl, rfl⟩; have e1 := hfk u hu1; have e2 := hfp u hu1; have e3 := hfs u hu1; have hc2 := hcl u hu1 hu2; rw [e1] at hc2; all_goals refine apl ?_) | ((with_reducible apply kx_alloc (E := 29)); exact ty_zero; (exact qcl); intro b3; (refine apk ?_)) | ((with_reducible apply kx_storeN); exact ty_size; rfl; rfl; rfl; (exact qsw); exact encI_one hu2; (exact qst); (refine apk ?_)) | (refine acl Tryz.func7 ?_; refine acr (hc2) ?_; rintro v' H' ⟨q, hq1, hq2, rfl, rfl⟩; have hqe := hq1.trans l5'; obtain ⟨hqn, hqk⟩ := subs_nil hqe; all_goals refine apl ?_) | ((with_reducible apply kx_alloc (E := 27)); exact ty_zero; (exact qcl); intro b4; (refine apk ?_)) | ((with_reducible apply kx_storeN); exact ty_size; rfl; rfl; rfl; (exact qsw); exact one3 hq2; (exact qst); (refine apk ?_)) | ((with_reducible apply sw_lendQ (c := .region 11 _ _) (A := OwnQ q)); (with_reducible (exact atk)); intro r1 g1 hr1 hg1 hA1; have hqr := own_read hA1 hg1; have hqs := (quR_iff.1 hqr).2.1) | ((with_reducible apply sw_draw (id := 11) 17 [(0, true), (1, true), (2, true), (3, true), (4, true), (5, true), (6, true), (7, true), (8, true), (9, true), (10, true), (11, true), (12, true), (13, false), (14, false), (15, false), (16, true)] [(17, false)] [(b4, .cells [.int .i64 q.kind, q.gv, q.sv].toArray 27 (0, 0))]); kernel_rfl; (exact atks); kernel_rfl; intro r' hl') | ((with_reducible refine swo_isCall 9 ?_); (with_reducible apply kx_lendC (A := RdC (.slice ac s.length cc) s)); (exact atk); intro r7 g7 hr7 hg7 hA7; (refine acl Tryz.func9 ?_; refine acr (hgg r7 g7 ac cc hg7 hA7) ?_; rintro v' H' ⟨a6, c6, rfl, rfl⟩; all_goals refine apl ?_)) | ((with_reducible refine swo_isCall 8 ?_); (with_reducible apply kx_lendC (A := TxC a6 c6 S)); (exact atk); intro r8 g8 hr8 hg8 hA8; (refine acl Tryz.func8 ?_; refine acr (hst r8 g1 g8 q a6 c6 hqe hA1 (fun b o e => hr8 b o (hl'.1 b o (hg1 b o e))) hA8 hg8) ?_; rintro v' H' ⟨rfl, rfl⟩; all_goals refine apl ?_)) | (exfalso; first | contradiction | omega) | refine aw0 ?_ | (refine ap2 ?_ ?_ <;> try intro h) | refine aw1 ?_ | (refine abx ?_; intro bb) | (refine abz ?_; intro bz) | (refine ahv ?_; intro v' hv') | (refine aac ?_; intro ac cc) | refine aw2 ?_ | (refine ap4 ?_ ?_ <;> try intro h) | apply True.intro)
        ((with_reducible apply fp_ret); exact res_1 rfl rfl)
        exact HR.out _ _ _ [] (by (exact atks)) ⟨by first | rfl | simp, rfl⟩
    · rw [decide_eq_false h40] at hfk
      have d40 : decide (((s.length : Nat) : Int) ≤ 40) = false := decide_eq_false (by omega)
      by_cases h3 : s.length < 3
      · omega
      · have l5' := l5 (by omega)
        repeat' (first | (rw [d40]) | (rw [e1]) | (refine acl Tryz.func4 ?_; refine acr (haw) ?_; rintro v' H' ⟨rfl, rfl⟩; all_goals refine apl ?_) | (refine acl Tryz.func6 ?_; refine acr (htx) ?_; rintro v' H' ⟨a, c, rfl, rfl⟩; all_goals refine apl ?_) | (refine acl Tryz.func5 ?_; refine acr (hofF a c) ?_; rintro v' H' ⟨u, hu1, hu2, rfl, rfl⟩; have e1 := hfk u hu1; have e2 := hfp u hu1; have e3 := hfs u hu1; have hc2 := hcl u hu1 hu2; rw [e1] at hc2; all_goals refine apl ?_) | ((with_reducible apply kx_alloc (E := 29)); exact ty_zero; (exact qcl); intro b3; (refine apk ?_)) | ((with_reducible apply kx_storeN); exact ty_size; rfl; rfl; rfl; (exact qsw); exact encI_one hu2; (exact qst); (refine apk ?_)) | (refine acl Tryz.func7 ?_; refine acr (hc2) ?_; rintro v' H' ⟨q, hq1, hq2, rfl, rfl⟩; have hqe := hq1.trans l5'; obtain ⟨hqn, hqk⟩ := subs_nil hqe; all_goals refine apl ?_) | ((with_reducible apply kx_alloc (E := 27)); exact ty_zero; (exact qcl); intro b4; (refine apk ?_)) | ((with_reducible apply kx_storeN); exact ty_size; rfl; rfl; rfl; (exact qsw); exact one3 hq2; (exact qst); (refine apk ?_)) | ((with_reducible apply sw_lendQ (c := .region 11 _ _) (A := OwnQ q)); (with_reducible (exact atk)); intro r1 g1 hr1 hg1 hA1; have hqr := own_read hA1 hg1; have hqs := (quR_iff.1 hqr).2.1) | ((with_reducible apply sw_draw (id := 11) 17 [(0, true), (1, true), (2, true), (3, true), (4, true), (5, true), (6, true), (7, true), (8, true), (9, true), (10, true), (11, true), (12, true), (13, false), (14, false), (15, false), (16, true)] [(17, false)] [(b4, .cells [.int .i64 q.kind, q.gv, q.sv].toArray 27 (0, 0))]); kernel_rfl; (exact atks); kernel_rfl; intro r' hl') | ((with_reducible refine swo_isCall 9 ?_); (with_reducible apply kx_lendC (A := RdC (.slice ac s.length cc) s)); (exact atk); intro r7 g7 hr7 hg7 hA7; (refine acl Tryz.func9 ?_; refine acr (hgg r7 g7 ac cc hg7 hA7) ?_; rintro v' H' ⟨a6, c6, rfl, rfl⟩; all_goals refine apl ?_)) | ((with_reducible refine swo_isCall 8 ?_); (with_reducible apply kx_lendC (A := TxC a6 c6 S)); (exact atk); intro r8 g8 hr8 hg8 hA8; (refine acl Tryz.func8 ?_; refine acr (hst r8 g1 g8 q a6 c6 hqe hA1 (fun b o e => hr8 b o (hl'.1 b o (hg1 b o e))) hA8 hg8) ?_; rintro v' H' ⟨rfl, rfl⟩; all_goals refine apl ?_)) | (exfalso; first | contradiction | omega) | refine aw0 ?_ | (refine ap2 ?_ ?_ <;> try intro h) | refine aw1 ?_ | (refine abx ?_; intro bb) | (refine abz ?_; intro bz) | (refine ahv ?_; intro v' hv') | (refine aac ?_; intro ac cc) | refine aw2 ?_ | (refine ap4 ?_ ?_ <;> try intro h) | apply True.intro)
        ((with_reducible apply fp_ret); exact res_1 rfl rfl)
        exact HR.out _ _ _ [] (by (exact atks)) ⟨by first | rfl | simp, rfl⟩
  · refine Tri.free2 fun R HR => ?_
    refine fn_of_sw Tryz.func3 rfl _ rfl ?_; refine aen Tryz.ntmps3 ?_
    repeat' (first | (refine acl Tryz.func4 ?_; refine acr (haw) ?_; rintro v' H' ⟨rfl, rfl⟩; all_goals refine apl ?_) | (exfalso; first | contradiction | omega) | refine aw0 ?_ | (refine ap2 ?_ ?_ <;> try intro h) | refine aw1 ?_ | (refine abx ?_; intro bb) | (refine abz ?_; intro bz) | (refine ahv ?_; intro v' hv') | (refine aac ?_; intro ac cc) | refine aw2 ?_ | (refine ap4 ?_ ?_ <;> try intro h) | apply True.intro)
    ((with_reducible apply fp_ret); exact res_1 rfl rfl)
    exact HR.out _ _ _ [] (by (exact atks)) ⟨rfl, rfl⟩
end Go.Proofs.YtdccjfabdfgomaaGreatDoor

namespace Go.Proofs.YtdccjfabdfgomaaGreatDoor
open Go.RowKit Sx

theorem knowRuns_any (r : Hp) (hT : TabR r) (s : Tx) (hs : s.length ≤ 140737488351232) : Tri Tryz.prog r 3 [.string (bs s)] [] fun w H => w = .bool true ∧ H = [] := knowRuns_of r hT (awake17_any r hT) s hs
end Go.Proofs.YtdccjfabdfgomaaGreatDoor
