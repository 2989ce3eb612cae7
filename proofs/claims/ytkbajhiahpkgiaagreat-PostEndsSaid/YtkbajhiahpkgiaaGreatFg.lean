
/- mudlarkref19.From out of Get's contract. -/
import Derived.Test.YtkbajhiahpkgiaaGreatPn
namespace Go.Proofs.YtkbajhiahpkgiaaGreat
open Go.RowKit Sx

set_option maxRecDepth 10000 in
set_option maxHeartbeats 4000000 in
theorem rfrom_any (r : Hp) (v : Value) (gr : List UInt8) (d : Int) (ps : List PostP) (e : Int) (hget : Tri Tryz.prog r 17 [v] [] fun w H => ∃ a c, w = .tuple #[.slice a ps.length c, .int .i64 e] ∧ H = [PostC 53 56 (.slice a ps.length c) ps]) (hM : sizeQ ps ≤ 10000000) : Tri Tryz.prog r 19 [v, .string (bs gr), .int .i64 d] [] fun w H => ∃ a c, w = .tuple #[.slice a (fromP ps gr d).length c, .int .i64 e] ∧ H = [RowC 56 2 (.slice a (fromP ps gr d).length c) (fromP ps gr d).length ((fromP ps gr d).flatMap encPl)] := by
  refine Tri.free2 fun R HR => ?_
  refine fn_of_sw Tryz.func19 rfl _ rfl ?_; refine aen Tryz.ntmps19 ?_
  refine sw_put (A := RowC 56 2 (.slice none 0 0) 0 []) (RowC.nil _ _) ?_
  repeat' (first | (refine acl Tryz.func17 ?_; refine acr (hget) ?_; rintro v' H' ⟨a3, c3, rfl, rfl⟩; all_goals refine apl ?_) | ((with_reducible apply sw_open (A := PostC 53 56 (.slice a3 ps.length c3) ps) (ι := List PZ) (B := fun Z => [PZC 53 56 (.slice a3 ps.length c3) Z]) (φ := fun Z => Z.map (·.1) = ps)); (with_reducible (exact atk)); (exact fun h ⟨Z, h1, h2⟩ => ⟨Z, h1, all_one.2 h2⟩); (rintro Z3 hZ3); (simp only [List.nil_append, List.cons_append])) | ((with_reducible apply sw_freezeT (A := PZC 53 56 (.slice a3 ps.length c3) Z3)); (with_reducible (exact atk)); intro r3 g3 hr3 hg3 hA3) | (exfalso; first | contradiction | omega) | refine aw0 ?_ | (refine ap2 ?_ ?_ <;> try intro h) | refine aw1 ?_ | (refine abx ?_; intro bb) | (refine abz ?_; intro bz) | (refine ahv ?_; intro v' hv') | (refine aac ?_; intro ac cc) | refine aw2 ?_ | (refine ap4 ?_ ?_ <;> try intro h) | apply True.intro)
  obtain ⟨hx3, hP3⟩ := pzc_posts hA3 hg3 (show Z3.length = ps.length by rw [← hZ3, List.length_map])
  rw [hZ3] at hx3
  have hxl : (Z3.map pvZ).length = ps.length := by rw [List.length_map, ← hZ3, List.length_map]
  generalize Z3.map pvZ = xs at hx3 hP3 hxl
  have hs : sizeP xs ≤ 10000000 := by rw [← sizeQ_un, hx3]; exact hM
  obtain ⟨hxn, hxp⟩ := sizeP_ge xs
  have hve := hP3.1
  refine sw_loop (fun gm t H' => ∃ (k : Nat) (aw : Option Addr) (cw : Nat), gm = xs.length + 1 - k ∧ (k ≤ xs.length) ∧ (∃ G, Takes [RowC 56 2 (.slice aw (wantP (xs.take k) gr d).length cw) (wantP (xs.take k) gr d).length ((wantP (xs.take k) gr d).flatMap encPl)] H' G) ∧ Sls t 67 [(1, .string (bs gr)), (2, .int .i64 d), (8, .slice a3 ps.length c3), (9, .int .i64 e), (10, .slice aw (wantP (xs.take k) gr d).length cw), (11, .int .i64 k)]) _ ⟨0, none, 0, rfl, Nat.zero_le _, ⟨_, by (exact atks)⟩, asls⟩ ?_
  rintro gm t H' ⟨k, aw, cw, rfl, hk, ⟨G, hp⟩, hs'⟩
  revert t; refine sls_all ?_; iterate 61 intro uu'
  refine sw_takeG hp ?_; clear hp
  by_cases hlt : k < xs.length
  · have hWl : (wantP (xs.take k) gr d).length ≤ 10000000 := Nat.le_trans (wantP_len _ _ _) (Nat.le_trans (sizeP_le xs k) hs)
    have hWn := wantP_snoc hlt gr d
    have hm := getD_mem hlt
    have hxe := hP3.2 _ hm
    have hxl2 := (hxp _ hm).2
    generalize (wantP (xs.take k) gr d) = W at hWl hWn ⊢
    repeat' (first | (exfalso; first | contradiction | omega) | refine aw0 ?_ | (refine ap2 ?_ ?_ <;> try intro h) | refine aw1 ?_ | (refine abx ?_; intro bb) | (refine abz ?_; intro bz) | (refine ahv ?_; intro v' hv') | (refine aac ?_; intro ac cc) | refine aw2 ?_ | (refine ap4 ?_ ?_ <;> try intro h) | apply True.intro)
    refine sw_loop (fun gm t H' => ∃ (i : Nat) (aw : Option Addr) (cw : Nat) (U : List PlaceV), gm = (xs.getD k default).pl.length + 1 - i ∧ (i ≤ (xs.getD k default).pl.length) ∧ (U = W ++ (((xs.getD k default).pl.take i).filter fun p => decide ((xs.getD k default).gram = gr) && decide (d ≤ p.doc))) ∧ (∃ G, Takes [RowC 56 2 (.slice aw U.length cw) U.length (U.flatMap encPl)] H' G) ∧ Sls t 67 [(1, .string (bs gr)), (2, .int .i64 d), (8, .slice a3 ps.length c3), (9, .int .i64 e), (10, .slice aw U.length cw), (11, .int .i64 k), (12, .int .i64 i)]) _ ⟨0, aw, cw, W, rfl, Nat.zero_le _, by rw [List.take_zero, List.filter_nil, List.append_nil], ⟨_, by (exact atks)⟩, asls⟩ ?_
    rintro gm t H' ⟨i, aw, cw, U, rfl, hi, hU, ⟨G, hp⟩, hs'⟩
    revert t; refine sls_all ?_; iterate 60 intro uu'
    refine sw_takeG hp ?_; clear hp
    have hUl : U.length ≤ 30000000 := by
      have hVl : (((xs.getD k default).pl.take i).filter fun p => decide ((xs.getD k default).gram = gr) && decide (d ≤ p.doc)).length ≤ i := Nat.le_trans (List.length_filter_le _ _) (List.length_take_le _ _)
      rw [hU, List.length_append]; omega
    by_cases hlt2 : i < (xs.getD k default).pl.length
    · have hVn := filt_snoc hlt2 (fun p => decide ((xs.getD k default).gram = gr) && decide (d ≤ p.doc))
      obtain ⟨y, hy⟩ : ∃ y, (xs.getD k default).pl.getD i default = y := ⟨_, rfl⟩
      by_cases hq : (xs.getD k default).gram = gr ∧ d ≤ ((xs.getD k default).pl.getD i default).doc
      · rw [if_pos (by rw [decide_eq_true hq.1, decide_eq_true hq.2]; rfl)] at hVn
        have hne : U ++ [y] = W ++ ((xs.getD k default).pl.take (i + 1)).filter (fun p => decide ((xs.getD k default).gram = gr) && decide (d ≤ p.doc)) := by rw [hVn, hU, hy, List.append_assoc]
        have hq1 := hq.1
        have hq2 := hq.2
        repeat' (first | (first | ((with_reducible apply kx_bs1); exact ty_el; exact ty_inf; rfl; rfl; rfl; intro bz; (refine apk ?_)) | ((with_reducible apply kx_bsN); exact ty_el; exact ty_inf; rfl; rfl; rfl; intro bz; (refine apk ?_))) | (first | ((with_reducible apply kx_append1); exact ty_el; exact ty_inf; rfl; rfl; rfl; (exact atk); (exact atk); rfl; omega; intro a' c'; (refine apk ?_)) | ((with_reducible apply kx_appendN); exact ty_el; exact ty_inf; rfl; rfl; rfl; rfl; (exact atk); (exact atk); rfl; rfl; omega; intro a' c'; (refine apk ?_))) | (exfalso; first | contradiction | omega) | refine aw0 ?_ | (refine ap2 ?_ ?_ <;> try intro h) | refine aw1 ?_ | (refine abx ?_; intro bb) | (refine abz ?_; intro bz) | (refine ahv ?_; intro v' hv') | (refine aac ?_; intro ac cc) | refine aw2 ?_ | (refine ap4 ?_ ?_ <;> try intro h) | apply True.intro)
        rw [hy]
        have hUn : (U ++ [y]).length = U.length + 1 := by simp
        exact ⟨_, by omega, i + 1, a', c', U ++ [y], rfl, by omega, hne, ⟨_, by rw [List.flatMap_append, List.length_append, show [y].flatMap encPl = encPl y by simp]; (exact atks)⟩, asls⟩
      · rw [if_neg (by intro h; rw [Bool.and_eq_true, decide_eq_true_eq, decide_eq_true_eq] at h; exact hq h), List.append_nil] at hVn
        repeat' (first | (exfalso; first | contradiction | omega | exact hq ⟨by assumption, by assumption⟩) | refine aw0 ?_ | (refine ap2 ?_ ?_ <;> try intro h) | refine aw1 ?_ | (refine abx ?_; intro bb) | (refine abz ?_; intro bz) | (refine ahv ?_; intro v' hv') | (refine aac ?_; intro ac cc) | refine aw2 ?_ | (refine ap4 ?_ ?_ <;> try intro h) | apply True.intro)
        all_goals exact ⟨_, by omega, i + 1, aw, cw, U, rfl, by omega, by rw [hVn]; exact hU, ⟨_, atks⟩, asls⟩
    · obtain rfl : i = (xs.getD k default).pl.length := by omega
      rw [List.take_length] at hU
      repeat' (first | (exfalso; first | contradiction | omega) | refine aw0 ?_ | (refine ap2 ?_ ?_ <;> try intro h) | refine aw1 ?_ | (refine abx ?_; intro bb) | (refine abz ?_; intro bz) | (refine ahv ?_; intro v' hv') | (refine aac ?_; intro ac cc) | refine aw2 ?_ | (refine ap4 ?_ ?_ <;> try intro h) | apply True.intro)
      have hUn : (wantP (xs.take (k + 1)) gr d).length = U.length := by rw [hWn, ← hU]
      exact ⟨_, by omega, k + 1, aw, cw, rfl, by omega, ⟨_, by rw [hWn, ← hU]; (exact atks)⟩, asls⟩
  · obtain rfl : k = xs.length := by omega
    rw [List.take_length, wantP_eq, hx3]
    repeat' (first | (exfalso; first | contradiction | omega) | refine aw0 ?_ | (refine ap2 ?_ ?_ <;> try intro h) | refine aw1 ?_ | (refine abx ?_; intro bb) | (refine abz ?_; intro bz) | (refine ahv ?_; intro v' hv') | (refine aac ?_; intro ac cc) | refine aw2 ?_ | (refine ap4 ?_ ?_ <;> try intro h) | apply True.intro)
    ((with_reducible apply fp_ret); exact res_2 rfl rfl rfl)
    exact HR.out _ _ _ [RowC 56 2 _ _ _] (by (exact atks)) ⟨aw, cw, rfl, rfl⟩
end Go.Proofs.YtkbajhiahpkgiaaGreat
