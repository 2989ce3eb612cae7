
/- know.Closed, small, fixed, settled: their contracts. -/
import Derived.Test.YtdccjfabdfgomaaGreatDoorOd
namespace Go.Proofs.YtdccjfabdfgomaaGreatDoor
open Go.RowKit Sx

set_option maxRecDepth 10000 in
set_option maxHeartbeats 4000000 in
theorem closed_any (r : Hp) (hT : TabR r) (i : InfV) (hi : InfR r i) (hf : FitI i.key) (ho : (encQ i.q).all one? = true) : Tri Tryz.prog r 7 [.agg [.bool i.known, .slice i.ea i.ex.length i.ec, .slice i.pa i.pre.length i.pc, .slice i.sa i.suf.length i.sc, .int .i64 i.q.kind, i.q.gv, i.q.sv].toArray] [] fun w H => ∃ q : QuV, q.key = closedK i.key ∧ (encQ q).all one? = true ∧ w = .agg [.int .i64 q.kind, q.gv, q.sv].toArray ∧ H = [OwnQ q] := by
  obtain ⟨f1, f2, f3, f4, f5, f6⟩ := loose_fit hf
  have f7 := hf.m
  have hlo := loose_any r hT i hi hf ho
  obtain ⟨L, hL⟩ : ∃ L, looseK i.key = L := ⟨_, rfl⟩
  have hcl : closedK i.key = andQ [L.m, gramsRow L.pre, gramsRow L.suf] := by unfold closedK; rw [hL]
  rw [hL] at f1 f2 f3 f4 f5 f6 hlo
  have hz1 := size_gramsRow L.pre
  have hz2 := size_gramsRow L.suf
  have hga : ∀ r' g (i' : InfV), i'.key = L → sub r r' → IC r i' g → sub g r' → Tri Tryz.prog r' 23 [.slice i'.pa i'.pre.length i'.pc] [] fun w H => ∃ q : QuV, q.key = gramsRow L.pre ∧ (encQ q).all one? = true ∧ w = .agg [.int .i64 q.kind, q.gv, q.sv].toArray ∧ H = [OwnQ q] := fun r' g i' hk s1 h1 s2 => by
    have h := kgrams_any r' (hT.mono s1) _ i'.pre (h1 r' s1 s2).pre (by rw [← hk] at f1; exact Nat.le_trans f1 (by omega))
    rw [← hk]; exact h
  have hgb : ∀ r' g (i' : InfV), i'.key = L → sub r r' → IC r i' g → sub g r' → Tri Tryz.prog r' 23 [.slice i'.sa i'.suf.length i'.sc] [] fun w H => ∃ q : QuV, q.key = gramsRow L.suf ∧ (encQ q).all one? = true ∧ w = .agg [.int .i64 q.kind, q.gv, q.sv].toArray ∧ H = [OwnQ q] := fun r' g i' hk s1 h1 s2 => by
    have h := kgrams_any r' (hT.mono s1) _ i'.suf (h1 r' s1 s2).suf (by rw [← hk] at f2; exact Nat.le_trans f2 (by omega))
    rw [← hk]; exact h
  have han : ∀ r' bz g g1 g2 (i' : InfV) (q1 q2 : QuV), i'.key = L → q1.key = gramsRow L.pre → q2.key = gramsRow L.suf → sub r r' → IC r i' g → sub g r' → OwnQ q1 g1 → sub g1 r' → OwnQ q2 g2 → sub g2 r' → r' bz = some (.cells [.int .i64 i'.q.kind, i'.q.gv, i'.q.sv, .int .i64 q1.kind, q1.gv, q1.sv, .int .i64 q2.kind, q2.gv, q2.sv].toArray 27 (0, 0)) → Tri Tryz.prog r' 22 [.slice (some ⟨bz, 0, none⟩) 3 3] [] fun w H => ∃ u : QuV, u.key = closedK i.key ∧ (encQ u).all one? = true ∧ w = .agg [.int .i64 u.kind, u.gv, u.sv].toArray ∧ H = [OwnQ u] := fun r' bz g g1 g2 i' q1 q2 k k1 k2 s1 h1 s2 h3 s3 h4 s4 h5 => by
    have hm : i'.q.key = L.m := by rw [← k]; rfl
    have h := and3_any r' (hT.mono s1) bz i'.q q1 q2 (h1 r' s1 s2).q (own_read h3 s3) (own_read h4 s4) h5 (by rw [hm]; exact f4) (by rw [k1]; exact right_gramsRow _) (by rw [k2]; exact right_gramsRow _) (by
      rw [hm, k1, k2]
      have : sizeQ i.key.m ≤ 6000000 := f7
      omega)
    rw [hm, k1, k2, ← hcl] at h
    exact h
  obtain ⟨Z, hZ⟩ : ∃ Z, closedK i.key = Z := ⟨_, rfl⟩
  rw [hZ] at han ⊢
  clear f1 f2 f3 f4 f5 f6 f7 hz1 hz2 hcl hL
  refine Tri.free2 fun R HR => ?_
  refine fn_of_sw Tryz.func7 rfl _ rfl ?_; refine aen Tryz.ntmps7 ?_
  repeat' (first | ((with_reducible apply pi_pur); rfl; (exact qwt); (with_reducible apply pu_ldP); rfl; (first | assumption | exact Lent.h1 hl' | exact Lent.h2 hl' | exact Lent.h3 hl'); (simp only [cut, List.drop_succ_cons, List.drop_zero, List.take_succ_cons, List.take_zero]; rfl); rfl; (refine apk ?_)) | ((with_reducible apply kx_box); rfl; (exact qcl); intro b1; (refine apk ?_)) | ((with_reducible apply kx_alloc (E := 27)); exact ty_zero; (exact qcl); intro b2; (refine apk ?_)) | (refine acl Tryz.func21 ?_; refine acr (hlo) ?_; rintro v' H' ⟨i', hik, hiz, hio, rfl, rfl⟩; all_goals refine apl ?_) | ((with_reducible apply kx_storeN); exact ty_size; rfl; rfl; rfl; (exact qsw); exact encI_one hio; (exact qst); (refine apk ?_)) | ((((with_reducible apply sw_draw (id := 2) 10 [(0, true), (1, true), (2, true), (3, true), (5, true), (6, true), (4, false), (7, false), (8, false), (9, false)] [(10, false)] [(b1, .cells [.bool i'.known, .slice i'.ea i'.ex.length i'.ec, .slice i'.pa i'.pre.length i'.pc, .slice i'.sa i'.suf.length i'.sc, .int .i64 i'.q.kind, i'.q.gv, i'.q.sv].toArray 29 (0, 0))]); kernel_rfl; (exact atks); kernel_rfl; intro r' hl')); have hone := hl'.1) | ((with_reducible refine swo_isCall 23 ?_); (with_reducible apply kx_lendC (A := IC r i')); (exact atk); intro r1 g1 hr1 hg1 hA1; (first | (refine acl Tryz.func23 ?_; refine acr (hga r1 g1 i' hik (Sx.sub.trans hone hr1) hA1 hg1) ?_; rintro v' H' ⟨q1, hq11, hq12, rfl, rfl⟩; all_goals refine apl ?_) | (refine acl Tryz.func23 ?_; refine acr (hgb r1 g1 i' hik (Sx.sub.trans hone hr1) hA1 hg1) ?_; rintro v' H' ⟨q2, hq21, hq22, rfl, rfl⟩; all_goals refine apl ?_))) | (first | ((with_reducible apply kx_bs1); exact ty_el; exact ty_inf; rfl; rfl; rfl; intro bz; (refine apk ?_)) | ((with_reducible apply kx_bsN); exact ty_el; exact ty_inf; rfl; rfl; rfl; intro bz; (refine apk ?_))) | ((with_reducible refine swo_isCall 22 ?_); (with_reducible apply kx_lendC (A := IC r i')); (exact atk); intro r1 g1 hr1 hg1 hA1; (with_reducible apply kx_lendC (A := OwnQ q1)); (exact atk); intro r2 g2 hr2 hg2 hA2; (with_reducible apply kx_lendC (A := OwnQ q2)); (exact atk); intro r3 g3 hr3 hg3 hA3; (with_reducible apply kx_lend [(bz, .cells [.int .i64 i'.q.kind, i'.q.gv, i'.q.sv, .int .i64 q1.kind, q1.gv, q1.sv, .int .i64 q2.kind, q2.gv, q2.sv].toArray 27 (0, 0))]); (exact atks); intro r5 hl5; (refine acl Tryz.func22 ?_; refine acr (han r5 bz g1 g2 g3 i' q1 q2 hik hq11 hq21 (Sx.sub.trans hone (Sx.sub.trans hr1 (Sx.sub.trans hr2 (Sx.sub.trans hr3 hl5.1)))) hA1 (fun b o e => hl5.1 b o (hr3 b o (hr2 b o (hg1 b o e)))) hA2 (fun b o e => hl5.1 b o (hr3 b o (hg2 b o e))) hA3 (fun b o e => hl5.1 b o (hg3 b o e)) (Lent.h1 hl5)) ?_; rintro v' H' ⟨q3, hq31, hq32, rfl, rfl⟩; all_goals refine apl ?_)) | ((with_reducible apply kx_storeN); exact ty_size; rfl; rfl; rfl; (exact qsw); exact hq32; (exact qst); (refine apk ?_)) | (exfalso; first | contradiction | omega) | refine aw0 ?_ | (refine ap2 ?_ ?_ <;> try intro h) | refine aw1 ?_ | (refine abx ?_; intro bb) | (refine abz ?_; intro bz) | (refine ahv ?_; intro v' hv') | (refine aac ?_; intro ac cc) | refine aw2 ?_ | (refine ap4 ?_ ?_ <;> try intro h) | apply True.intro)
  ((with_reducible apply fp_ret); exact res_W rfl rfl (by (exact atk)) ty_agg ty_size rfl)
  exact HR.out _ _ _ [OwnQ q3] (by (exact atks)) ⟨q3, hq31, hq32, rfl, rfl⟩
set_option maxHeartbeats 400000 in
theorem small1_any (r : Hp) (s : Tx) : Tri Tryz.prog r 78 [.string (bs s)] [] fun w H => w = .bool (decide (40 < s.length)) ∧ H = [] := by
  refine Tri.free2 fun R HR => ?_
  by_cases h : 40 < s.length
  · rw [decide_eq_true h] at HR
    refine fn_of_sw Tryz.func78 rfl _ rfl ?_; refine aen Tryz.ntmps78 ?_
    repeat' (first | (exfalso; first | contradiction | omega) | refine aw0 ?_ | (refine ap2 ?_ ?_ <;> try intro h) | refine aw1 ?_ | (refine abx ?_; intro bb) | (refine abz ?_; intro bz) | (refine ahv ?_; intro v' hv') | (refine aac ?_; intro ac cc) | refine aw2 ?_ | (refine ap4 ?_ ?_ <;> try intro h) | apply True.intro)
    ((with_reducible apply fp_ret); exact res_1 rfl rfl)
    exact HR.out _ _ _ [] Takes.all ⟨by first | rfl | (congr 1; simp; omega), rfl⟩
  · rw [decide_eq_false h] at HR
    refine fn_of_sw Tryz.func78 rfl _ rfl ?_; refine aen Tryz.ntmps78 ?_
    repeat' (first | (exfalso; first | contradiction | omega) | refine aw0 ?_ | (refine ap2 ?_ ?_ <;> try intro h) | refine aw1 ?_ | (refine abx ?_; intro bb) | (refine abz ?_; intro bz) | (refine ahv ?_; intro v' hv') | (refine aac ?_; intro ac cc) | refine aw2 ?_ | (refine ap4 ?_ ?_ <;> try intro h) | apply True.intro)
    ((with_reducible apply fp_ret); exact res_1 rfl rfl)
    exact HR.out _ _ _ [] Takes.all ⟨by first | rfl | (congr 1; simp; omega), rfl⟩
theorem small_any' (l : List Tx) : smallK l = (decide (l.length ≤ 8) && !(l.any fun s => decide (40 < s.length))) := by
  unfold smallK
  congr 1
  rw [List.not_any_eq_all_not]
  congr 1
  funext s
  by_cases h : s.length ≤ 40
  · rw [decide_eq_true h, decide_eq_false (by omega)]; rfl
  · rw [decide_eq_false h, decide_eq_true (by omega)]; rfl
set_option maxRecDepth 10000 in
set_option maxHeartbeats 1000000 in
theorem small_any (r : Hp) (v : Value) (l : List Tx) (hv : Els r 1 encTx v l) : Tri Tryz.prog r 49 [v] [] fun w H => w = .bool (smallK l) ∧ H = [] := by
  have hlm := maxI hv.2.2.1
  have hc := contStr_any r v l 78 [] [] (fun s => decide (40 < s.length)) hv (goesOf Tryz.func78 (by kernel_rfl) rfl) (fun k hk => small1_any r _)
  rw [small_any']
  obtain ⟨b, hb⟩ : ∃ b, (l.any fun s => decide (40 < s.length)) = b := ⟨_, rfl⟩
  rw [hb] at hc ⊢
  refine Tri.free2 fun R HR => ?_
  by_cases h : l.length ≤ 8
  · rw [decide_eq_true h] at HR
    refine fn_of_sw Tryz.func49 rfl _ rfl ?_; refine aen Tryz.ntmps49 ?_
    repeat' (first | (refine acl Tryz.func65 ?_; refine acr (hc) ?_; rintro v' H' ⟨rfl, rfl⟩; all_goals refine apl ?_) | (exfalso; first | contradiction | omega) | refine aw0 ?_ | (refine ap2 ?_ ?_ <;> try intro h) | refine aw1 ?_ | (refine abx ?_; intro bb) | (refine abz ?_; intro bz) | (refine ahv ?_; intro v' hv') | (refine aac ?_; intro ac cc) | refine aw2 ?_ | (refine ap4 ?_ ?_ <;> try intro h) | apply True.intro)
    all_goals
      ((with_reducible apply fp_ret); exact res_1 rfl rfl)
      exact HR.out _ _ _ [] Takes.all ⟨by first | rfl | (cases b <;> rfl) | (congr 1; simp_all), rfl⟩
  · rw [decide_eq_false h] at HR
    refine fn_of_sw Tryz.func49 rfl _ rfl ?_; refine aen Tryz.ntmps49 ?_
    repeat' (first | (refine acl Tryz.func65 ?_; refine acr (hc) ?_; rintro v' H' ⟨rfl, rfl⟩; all_goals refine apl ?_) | (exfalso; first | contradiction | omega) | refine aw0 ?_ | (refine ap2 ?_ ?_ <;> try intro h) | refine aw1 ?_ | (refine abx ?_; intro bb) | (refine abz ?_; intro bz) | (refine ahv ?_; intro v' hv') | (refine aac ?_; intro ac cc) | refine aw2 ?_ | (refine ap4 ?_ ?_ <;> try intro h) | apply True.intro)
    all_goals
      ((with_reducible apply fp_ret); exact res_1 rfl rfl)
      exact HR.out _ _ _ [] Takes.all ⟨by first | rfl | (congr 1; simp_all), rfl⟩
set_option maxRecDepth 10000 in
set_option maxHeartbeats 2000000 in
theorem indexT_any (r : Hp) (v : Value) (l : List Tx) (s : Tx) (hv : Els r 1 encTx v l) : Tri Tryz.prog r 101 [v, .string (bs s)] [] fun w H => ∃ k : Int, w = .int .i64 k ∧ (0 ≤ k ↔ s ∈ l) ∧ H = [] := by
  have hlm := maxI hv.2.2.1
  refine Tri.free2 fun R HR => ?_
  refine fn_of_sw Tryz.func101 rfl _ rfl ?_; refine aen Tryz.ntmps101 ?_
  repeat' (first | (exfalso; first | contradiction | omega) | refine aw0 ?_ | (refine ap2 ?_ ?_ <;> try intro h) | refine aw1 ?_ | (refine abx ?_; intro bb) | (refine abz ?_; intro bz) | (refine ahv ?_; intro v' hv') | (refine aac ?_; intro ac cc) | refine aw2 ?_ | (refine ap4 ?_ ?_ <;> try intro h) | apply True.intro)
  refine sw_loop (fun gm t H' => ∃ (k : Nat), gm = l.length + 1 - k ∧ (k ≤ l.length) ∧ (∀ x ∈ l.take k, ¬ s = x) ∧ (∃ G, Takes [] H' G) ∧ Sls t 19 [(0, v), (1, .string (bs s)), (7, .int .i64 l.length), (8, .int .i64 k)]) _ ⟨0, rfl, Nat.zero_le _, (fun x hx => by simp at hx), ⟨[], by (exact atks)⟩, asls⟩ ?_
  rintro gm t H' ⟨k, rfl, hk, hno, ⟨G, hp⟩, hs'⟩
  revert t; refine sls_all ?_; iterate 15 intro uu'
  refine sw_takeG hp ?_; clear hp
  by_cases hlt : k < l.length
  · obtain ⟨x, hx⟩ : ∃ x, l.getD k default = x := ⟨_, rfl⟩
    have hxm : x ∈ l := hx ▸ getD_memU hlt
    have htk : l.take (k + 1) = l.take k ++ [x] := by rw [take_getD (d := default) hlt, hx]
    by_cases he : s = x
    · subst he
      repeat' (first | (rw [hx]) | (exfalso; first | contradiction | omega) | refine aw0 ?_ | (refine ap2 ?_ ?_ <;> try intro h) | refine aw1 ?_ | (refine abx ?_; intro bb) | (refine abz ?_; intro bz) | (refine ahv ?_; intro v' hv') | (refine aac ?_; intro ac cc) | refine aw2 ?_ | (refine ap4 ?_ ?_ <;> try intro h) | apply True.intro)
      ((with_reducible apply fp_ret); exact res_1 rfl rfl)
      exact HR.out _ _ _ [] Takes.all ⟨_, rfl, ⟨fun _ => hxm, fun _ => by omega⟩, rfl⟩
    · repeat' (first | (rw [hx]) | (exfalso; first | contradiction | omega) | refine aw0 ?_ | (refine ap2 ?_ ?_ <;> try intro h) | refine aw1 ?_ | (refine abx ?_; intro bb) | (refine abz ?_; intro bz) | (refine ahv ?_; intro v' hv') | (refine aac ?_; intro ac cc) | refine aw2 ?_ | (refine ap4 ?_ ?_ <;> try intro h) | apply True.intro)
      exact ⟨_, by omega, k + 1, rfl, by omega, (fun y hy => by rw [htk] at hy; rcases List.mem_append.1 hy with hy | hy; exact hno y hy; rw [List.mem_singleton.1 hy]; exact he), ⟨[], by (exact atks)⟩, asls⟩
  · obtain rfl : k = l.length := by omega
    rw [List.take_length] at hno
    repeat' (first | (exfalso; first | contradiction | omega) | refine aw0 ?_ | (refine ap2 ?_ ?_ <;> try intro h) | refine aw1 ?_ | (refine abx ?_; intro bb) | (refine abz ?_; intro bz) | (refine ahv ?_; intro v' hv') | (refine aac ?_; intro ac cc) | refine aw2 ?_ | (refine ap4 ?_ ?_ <;> try intro h) | apply True.intro)
    ((with_reducible apply fp_ret); exact res_1 rfl rfl)
    exact HR.out _ _ _ [] Takes.all ⟨_, rfl, ⟨fun h => absurd h (by omega), fun h => absurd rfl (hno s h)⟩, rfl⟩
set_option maxRecDepth 10000 in
set_option maxHeartbeats 1000000 in
theorem containsT_any (r : Hp) (v : Value) (l : List Tx) (s : Tx) (hv : Els r 1 encTx v l) : Tri Tryz.prog r 79 [v, .string (bs s)] [] fun w H => w = .bool (decide (s ∈ l)) ∧ H = [] := by
  have hi := indexT_any r v l s hv
  refine Tri.free2 fun R HR => ?_
  refine fn_of_sw Tryz.func79 rfl _ rfl ?_; refine aen Tryz.ntmps79 ?_
  repeat' (first | (refine acl Tryz.func101 ?_; refine acr (hi) ?_; rintro v' H' ⟨k, rfl, hk, rfl⟩; all_goals refine apl ?_) | (exfalso; first | contradiction | omega) | refine aw0 ?_ | (refine ap2 ?_ ?_ <;> try intro h) | refine aw1 ?_ | (refine abx ?_; intro bb) | (refine abz ?_; intro bz) | (refine ahv ?_; intro v' hv') | (refine aac ?_; intro ac cc) | refine aw2 ?_ | (refine ap4 ?_ ?_ <;> try intro h) | apply True.intro)
  ((with_reducible apply fp_ret); exact res_1 rfl rfl)
  exact HR.out _ _ _ [] Takes.all ⟨by first | rfl | (congr 1; simp [hk]), rfl⟩
def finK (L : List Tx) : List Tx := if 8 < L.length ∨ [] ∈ L then [[]] else L
def restK (cut : Nat → Tx → Tx) : Nat → List Tx → List Tx
  | 0, L => finK L
  | 1, L => finK (if 8 < L.length then rowT (L.map (cut 1)) else L)
  | _ + 2, L => finK (if 8 < (rowT (L.map (cut 2))).length then rowT ((rowT (L.map (cut 2))).map (cut 1)) else rowT (L.map (cut 2)))
theorem rest_two (cut : Nat → Tx → Tx) (L : List Tx) : restK cut 2 L = fixedK cut L := rfl
theorem row_len (l : List Tx) : (rowT l).length ≤ l.length := by
  have h : ∀ (l m : List Tx), (l.foldl (insBy id) m).length ≤ m.length + l.length := fun l => by
    induction l with
    | nil => intro m; simp
    | cons x l ih =>
      intro m
      have h1 := ih (insBy id m x)
      have h2 : (insBy id m x).length ≤ m.length + 1 := by
        clear h1 ih
        induction m with
        | nil => simp [insBy]
        | cons y m ihm =>
          unfold insBy
          split
          · simp only [List.length_cons]; omega
          · split
            · simp
            · simp
      simp only [List.foldl_cons, List.length_cons]; omega
  have := h l []
  simpa [sortBy] using this
/-- A literal slice of one text, as a row. -/
theorem lit1_row {b : Nat} {s : Tx} : ∀ h, pt b (.cells [.string (bs s)].toArray 9 (0, 0)) h → TxC (some ⟨b, 0, none⟩) 1 [s] h := fun h e => RowC.of_pt (sz := 1) (n := 1) (cap := 1) (Nat.le_refl _) (by unfold maxLen; omega) rfl h e
end Go.Proofs.YtdccjfabdfgomaaGreatDoor
