/- mudlarklaw19.PostWhere: its contract. -/
import Derived.Test.YtkbajhiahpkgiaaAx
import Derived.Test.YtkbajhiahpkgiaaWh
namespace Go.Proofs.Ytkbajhiahpkgiaa
open Go.RowKit Sx

theorem manyD_take {bv : List BytV} {k : Nat} (h : k < bv.length) : manyD ((bv.take (k + 1)).map (·.data)) = manyD ((bv.take k).map (·.data)) + ((bv.getD k default).data.length - 2) := by
  unfold manyD
  rw [take_getD (d := default) h, List.map_append, List.map_append, List.sum_append]
  simp
theorem manyD_le : ∀ bv : List BytV, manyD (bv.map (·.data)) ≤ sumR bv
  | [] => Nat.le_refl _
  | x :: bv => by
    have ih := manyD_le bv
    unfold manyD sumR at ih ⊢
    rw [List.map_cons, List.map_cons, List.sum_cons, List.map_cons, List.sum_cons]
    omega
theorem allP_take {xs : List PostV} {k : Nat} (h : k < xs.length) : allP ((xs.take (k + 1)).map unP) = allP ((xs.take k).map unP) + (xs.getD k default).pl.length := by
  unfold allP
  rw [take_getD (d := default) h, List.map_append, List.map_append, List.sum_append]
  simp [unP]
theorem allP_le (xs : List PostV) (k : Nat) : allP ((xs.take k).map unP) ≤ allP (xs.map unP) := by
  have e : allP (xs.map unP) = allP ((xs.take k).map unP) + allP ((xs.drop k).map unP) := by
    unfold allP
    rw [← List.sum_append, ← List.map_append, ← List.map_append, List.take_append_drop]
  omega
theorem tot_bv (bv : List BytV) : tot (bv.map (·.data)) bv.length = sumR bv := by
  have h := tot_sum (bv.map (·.data)) bv.length (by rw [List.length_map]; exact Nat.le_refl _)
  rw [h, List.take_of_length_le (by rw [List.length_map]; exact Nat.le_refl _), List.map_map]
  rfl
set_option maxRecDepth 10000 in
set_option maxHeartbeats 8000000 in
theorem postWhere_any (r : Hp) (v : Value) (bv : List BytV) (hv : Rowz r v bv) (hbn : bv.length ≤ 140737488351232) (hl : ∀ x ∈ bv, x.data.length ≤ 140737488351232) : Tri Try.prog r 5 [v] [] fun w H => w = .bool true ∧ H = [] := by
  refine Tri.free2 fun R HR => ?_
  have hve := hv.1
  have hgr := great_any r v bv hv (by omega) (fun x hx => by have := hl x hx; omega)
  by_cases hg : 1500 < bv.length + sumR bv
  · rw [decide_eq_true hg] at hgr
    refine fn_of_sw Try.func5 rfl _ rfl ?_; simp only [Try.ntmps5, List.length_cons, List.length_nil, Nat.reduceAdd, Nat.reduceSub, List.replicate_succ, List.replicate_zero, List.nil_append, List.cons_append]
    repeat' (first | ((with_reducible apply kx_call (f := 11) (cap := [])); exact goesOf Try.func11 (by kernel_rfl) rfl; rfl; rfl; exact (awake19_any _); (exact atks); rintro v' H' ⟨rfl, rfl⟩; all_goals ((try simp only [List.nil_append]); (refine apk ?_))) | ((with_reducible apply kx_call (f := 19) (cap := [])); exact goesOf Try.func19 (by kernel_rfl) rfl; rfl; rfl; exact (hgr); (exact atks); rintro v' H' ⟨rfl, rfl⟩; all_goals ((try simp only [List.nil_append]); (refine apk ?_))) | (exfalso; first | contradiction | omega) | (refine aw0 ?_) | (refine ap2 ?_ ?_ <;> first | exact True.intro | intro h) | (refine aw1 ?_) | (refine abx ?_; intro bb) | (refine abz ?_; intro bz) | (refine ahv ?_; intro v' hv') | (refine aac ?_; intro ac cc) | (refine aw2 ?_) | (refine ap4 ?_ ?_ <;> first | exact True.intro | intro h) | (with_reducible refine tr_two ?_ ?_))
    all_goals (((with_reducible apply fp_ret); exact res_1 rfl rfl); exact HR.out _ _ _ [] Takes.all ⟨rfl, rfl⟩)
  · rw [decide_eq_false hg] at hgr
    have htot := tot_bv bv
    obtain ⟨ds, hds⟩ : ∃ ds, bv.map (·.data) = ds := ⟨_, rfl⟩
    have hdl : ds.length = bv.length := by rw [← hds, List.length_map]
    have hmk := make_any r v bv hv (by omega) (by rw [htot]; omega)
    rw [hds] at htot hmk
    have hok : postsOk [] (makeP ds) = true := makeP_ok (by omega) (by rw [hdl, htot]; omega)
    have ham := all_many ds
    have hml := manyD_le bv
    rw [hds] at hml
    have hmem : ∀ x ∈ makeP ds, ∀ p ∈ x.2, _ := fun x hx p hp => makeP_place hx hp
    obtain ⟨ps, hps⟩ : ∃ ps, makeP ds = ps := ⟨_, rfl⟩
    rw [hps] at hmk hok ham hmem
    refine fn_of_sw Try.func5 rfl _ rfl ?_; simp only [Try.ntmps5, List.length_cons, List.length_nil, Nat.reduceAdd, Nat.reduceSub, List.replicate_succ, List.replicate_zero, List.nil_append, List.cons_append]
    repeat' (first | ((with_reducible apply kx_call (f := 11) (cap := [])); exact goesOf Try.func11 (by kernel_rfl) rfl; rfl; rfl; exact (awake19_any _); (exact atks); rintro v' H' ⟨rfl, rfl⟩; all_goals ((try simp only [List.nil_append]); (refine apk ?_))) | ((with_reducible apply kx_call (f := 19) (cap := [])); exact goesOf Try.func19 (by kernel_rfl) rfl; rfl; rfl; exact (hgr); (exact atks); rintro v' H' ⟨rfl, rfl⟩; all_goals ((try simp only [List.nil_append]); (refine apk ?_))) | ((with_reducible apply kx_call (f := 20) (cap := [])); exact goesOf Try.func20 (by kernel_rfl) rfl; rfl; rfl; exact (hmk); (exact atks); rintro v' H' ⟨a1, c1, rfl, rfl⟩; all_goals ((try simp only [List.cons_append, List.nil_append]); (refine apk ?_))) | ((with_reducible apply sw_open (A := PostC 42 44 (.slice a1 ps.length c1) ps) (ι := List PZ) (B := fun Z => [PZC 42 44 (.slice a1 ps.length c1) Z]) (φ := fun Z => Z.map (·.1) = ps)); (with_reducible (exact atk)); (exact fun h ⟨Z, h1, h2⟩ => ⟨Z, h1, all_one.2 h2⟩); (rintro Z hZ); (simp only [List.nil_append, List.cons_append])) | ((with_reducible apply sw_freezeT (A := PZC 42 44 (.slice a1 ps.length c1) Z)); (with_reducible (exact atk)); intro r1 g1 hr1 hg1 hA1) | (exfalso; first | contradiction | omega) | (refine aw0 ?_) | (refine ap2 ?_ ?_ <;> first | exact True.intro | intro h) | (refine aw1 ?_) | (refine abx ?_; intro bb) | (refine abz ?_; intro bz) | (refine ahv ?_; intro v' hv') | (refine aac ?_; intro ac cc) | (refine aw2 ?_) | (refine ap4 ?_ ?_ <;> first | exact True.intro | intro h) | (with_reducible refine tr_two ?_ ?_))
    obtain ⟨hx1, hP⟩ := pzc_posts hA1 hg1 (show Z.length = ps.length by rw [← hZ, List.length_map])
    rw [hZ] at hx1
    have hxl : (Z.map pvZ).length = ps.length := by rw [List.length_map, ← hZ, List.length_map]
    generalize Z.map pvZ = xs at hx1 hP hxl
    clear hmk hgr
    have hve1 := hve.mono hr1
    have hPe := hP.1
    have hxn : xs.length ≤ maxLen := hPe.2.2.1
    unfold maxLen at hxn
    refine sw_loop (fun gm t H' => ∃ k : Nat, gm = bv.length + 1 - k ∧ (k ≤ bv.length) ∧ (∃ G, Takes [] H' G) ∧ (t.length = 103 ∧ t[0]? = some (v) ∧ t[3]? = some (.slice a1 ps.length c1) ∧ t[4]? = some (.int .i64 0) ∧ t[5]? = some (.int .i64 (manyD ((bv.take k).map (·.data)) : Nat)) ∧ t[6]? = some (.int .i64 k))) _ ⟨0, rfl, Nat.zero_le _, ⟨_, by (exact atks)⟩, rfl, (by first | rfl | exact congrArg some (congrArg (Value.int _) (by omega)) | exact congrArg some (congrArg (fun n => Value.slice _ n _) (by omega)) | (congr 2 <;> omega)), (by first | rfl | exact congrArg some (congrArg (Value.int _) (by omega)) | exact congrArg some (congrArg (fun n => Value.slice _ n _) (by omega)) | (congr 2 <;> omega)), (by first | rfl | exact congrArg some (congrArg (Value.int _) (by omega)) | exact congrArg some (congrArg (fun n => Value.slice _ n _) (by omega)) | (congr 2 <;> omega)), (by first | rfl | exact congrArg some (congrArg (Value.int _) (by omega)) | exact congrArg some (congrArg (fun n => Value.slice _ n _) (by omega)) | (congr 2 <;> omega)), (by first | rfl | exact congrArg some (congrArg (Value.int _) (by omega)) | exact congrArg some (congrArg (fun n => Value.slice _ n _) (by omega)) | (congr 2 <;> omega))⟩ ?_
    rintro gm t H' ⟨k, rfl, hk, ⟨G, hp⟩, hlen, e0, e3, e4, e5, e6⟩
    revert e0 e3 e4 e5 e6; revert t; refine all_len (n := 103) ?_; iterate 103 intro uu'
    intro e0 e3 e4 e5 e6; cases e0; cases e3; cases e4; cases e5; cases e6
    refine sw_takeG hp ?_
    clear hp
    by_cases hlt : k < bv.length
    · have hmt := manyD_take hlt
      have hb := (hv.2 _ (getD_mem hlt)).mono hr1
      have hbl := hl _ (getD_mem hlt)
      have hm1 := manyD_le (bv.take (k + 1))
      have hm2 := sumR_le bv (k + 1)
      repeat' (first | (exfalso; first | contradiction | omega) | (refine aw0 ?_) | (refine ap2 ?_ ?_ <;> first | exact True.intro | intro h) | (refine aw1 ?_) | (refine abx ?_; intro bb) | (refine abz ?_; intro bz) | (refine ahv ?_; intro v' hv') | (refine aac ?_; intro ac cc) | (refine aw2 ?_) | (refine ap4 ?_ ?_ <;> first | exact True.intro | intro h) | (with_reducible refine tr_two ?_ ?_))
      exact ⟨_, (by omega), k + 1, rfl, by omega, ⟨_, by (exact atks)⟩, rfl, (by first | rfl | exact congrArg some (congrArg (Value.int _) (by omega)) | exact congrArg some (congrArg (fun n => Value.slice _ n _) (by omega)) | (congr 2 <;> omega)), (by first | rfl | exact congrArg some (congrArg (Value.int _) (by omega)) | exact congrArg some (congrArg (fun n => Value.slice _ n _) (by omega)) | (congr 2 <;> omega)), (by first | rfl | exact congrArg some (congrArg (Value.int _) (by omega)) | exact congrArg some (congrArg (fun n => Value.slice _ n _) (by omega)) | (congr 2 <;> omega)), (by first | rfl | exact congrArg some (congrArg (Value.int _) (by omega)) | exact congrArg some (congrArg (fun n => Value.slice _ n _) (by omega)) | (congr 2 <;> omega)), (by first | rfl | exact congrArg some (congrArg (Value.int _) (by omega)) | exact congrArg some (congrArg (fun n => Value.slice _ n _) (by omega)) | (congr 2 <;> omega))⟩
    · obtain rfl : k = bv.length := by omega
      rw [List.take_length, hds]
      repeat' (first | (exfalso; first | contradiction | omega) | (refine aw0 ?_) | (refine ap2 ?_ ?_ <;> first | exact True.intro | intro h) | (refine aw1 ?_) | (refine abx ?_; intro bb) | (refine abz ?_; intro bz) | (refine ahv ?_; intro v' hv') | (refine aac ?_; intro ac cc) | (refine aw2 ?_) | (refine ap4 ?_ ?_ <;> first | exact True.intro | intro h) | (with_reducible refine tr_two ?_ ?_))
      refine sw_loop (fun gm t H' => ∃ k : Nat, gm = xs.length + 1 - k ∧ (k ≤ xs.length) ∧ (∃ G, Takes [] H' G) ∧ (t.length = 103 ∧ t[0]? = some (v) ∧ t[3]? = some (.slice a1 ps.length c1) ∧ t[4]? = some (.int .i64 (allP ((xs.take k).map unP) : Nat)) ∧ t[5]? = some (.int .i64 (manyD ds : Nat)) ∧ t[7]? = some (.int .i64 k))) _ ⟨0, rfl, Nat.zero_le _, ⟨_, by (exact atks)⟩, rfl, (by first | rfl | exact congrArg some (congrArg (Value.int _) (by omega)) | exact congrArg some (congrArg (fun n => Value.slice _ n _) (by omega)) | (congr 2 <;> omega)), (by first | rfl | exact congrArg some (congrArg (Value.int _) (by omega)) | exact congrArg some (congrArg (fun n => Value.slice _ n _) (by omega)) | (congr 2 <;> omega)), (by first | rfl | exact congrArg some (congrArg (Value.int _) (by omega)) | exact congrArg some (congrArg (fun n => Value.slice _ n _) (by omega)) | (congr 2 <;> omega)), (by first | rfl | exact congrArg some (congrArg (Value.int _) (by omega)) | exact congrArg some (congrArg (fun n => Value.slice _ n _) (by omega)) | (congr 2 <;> omega)), (by first | rfl | exact congrArg some (congrArg (Value.int _) (by omega)) | exact congrArg some (congrArg (fun n => Value.slice _ n _) (by omega)) | (congr 2 <;> omega))⟩ ?_
      rintro gm t H' ⟨k, rfl, hk, ⟨G, hp⟩, hlen, e0, e3, e4, e5, e7⟩
      revert e0 e3 e4 e5 e7; revert t; refine all_len (n := 103) ?_; iterate 103 intro uu'
      intro e0 e3 e4 e5 e7; cases e0; cases e3; cases e4; cases e5; cases e7
      refine sw_takeG hp ?_
      clear hp
      have hal := allP_le xs k
      have hal2 := allP_le xs (k + 1)
      rw [hx1, ham] at hal hal2
      by_cases hlt : k < xs.length
      · have hat := allP_take hlt
        have hxe := hP.2 _ (getD_mem hlt)
        have hin : unP (xs.getD k default) ∈ ps := by rw [← hx1]; exact List.mem_map_of_mem (getD_mem hlt)
        have hpl : ∀ p ∈ (xs.getD k default).pl, _ := fun p hp => hmem _ hin p hp
        repeat' (first | (exfalso; first | contradiction | omega) | (refine aw0 ?_) | (refine ap2 ?_ ?_ <;> first | exact True.intro | intro h) | (refine aw1 ?_) | (refine abx ?_; intro bb) | (refine abz ?_; intro bz) | (refine ahv ?_; intro v' hv') | (refine aac ?_; intro ac cc) | (refine aw2 ?_) | (refine ap4 ?_ ?_ <;> first | exact True.intro | intro h) | (with_reducible refine tr_two ?_ ?_))
        refine sw_loop (fun gm t H' => ∃ i : Nat, gm = (xs.getD k default).pl.length + 1 - i ∧ (i ≤ (xs.getD k default).pl.length) ∧ (∃ G, Takes [] H' G) ∧ (t.length = 103 ∧ t[0]? = some (v) ∧ t[3]? = some (.slice a1 ps.length c1) ∧ t[4]? = some (.int .i64 (allP ((xs.take k).map unP) + i : Nat)) ∧ t[5]? = some (.int .i64 (manyD ds : Nat)) ∧ t[7]? = some (.int .i64 k) ∧ t[8]? = some (.int .i64 i))) _ ⟨0, rfl, Nat.zero_le _, ⟨_, by (exact atks)⟩, rfl, (by first | rfl | exact congrArg some (congrArg (Value.int _) (by omega)) | exact congrArg some (congrArg (fun n => Value.slice _ n _) (by omega)) | (congr 2 <;> omega)), (by first | rfl | exact congrArg some (congrArg (Value.int _) (by omega)) | exact congrArg some (congrArg (fun n => Value.slice _ n _) (by omega)) | (congr 2 <;> omega)), (by first | rfl | exact congrArg some (congrArg (Value.int _) (by omega)) | exact congrArg some (congrArg (fun n => Value.slice _ n _) (by omega)) | (congr 2 <;> omega)), (by first | rfl | exact congrArg some (congrArg (Value.int _) (by omega)) | exact congrArg some (congrArg (fun n => Value.slice _ n _) (by omega)) | (congr 2 <;> omega)), (by first | rfl | exact congrArg some (congrArg (Value.int _) (by omega)) | exact congrArg some (congrArg (fun n => Value.slice _ n _) (by omega)) | (congr 2 <;> omega)), (by first | rfl | exact congrArg some (congrArg (Value.int _) (by omega)) | exact congrArg some (congrArg (fun n => Value.slice _ n _) (by omega)) | (congr 2 <;> omega))⟩ ?_
        rintro gm t H' ⟨i, rfl, hi, ⟨G, hp⟩, hlen, e0, e3, e4, e5, e7, e8⟩
        revert e0 e3 e4 e5 e7 e8; revert t; refine all_len (n := 103) ?_; iterate 103 intro uu'
        intro e0 e3 e4 e5 e7 e8; cases e0; cases e3; cases e4; cases e5; cases e7; cases e8
        refine sw_takeG hp ?_
        clear hp
        by_cases hlt2 : i < (xs.getD k default).pl.length
        · obtain ⟨d, kk, hd1, hd2, hd3, hd4, hd5⟩ := hpl _ (getD_mem hlt2)
          have hdl2 : d < bv.length := by omega
          have hdd : ds.getD d [] = (bv.getD d default).data := by
            rw [← hds, List.getD_eq_getElem?_getD, List.getD_eq_getElem?_getD, List.getElem?_map, List.getElem?_eq_getElem hdl2]; rfl
          rw [hdd] at hd2 hd3 hd4
          have hm := getD_mem hdl2
          have hA := fun r' (hr : sub r1 r') => at_any r' (bv.getD d default).val (bv.getD d default).data (kk : Nat) (((hv.2 _ hm).mono hr1).mono hr) (hl _ hm)
          rw [if_pos hd3, show (((bv.getD d default).data.drop (kk : Int).toNat).take 3) = (xs.getD k default).gram from hd4.symm] at hA
          repeat' (first | (rw [hd5, show encPl (⟨d, kk⟩ : PlaceV) = [.int .i64 (d : Nat), .int .i64 (kk : Nat)] from rfl]) | (((with_reducible apply sw_draw (id := 20) 12 [(0, true), (1, true), (2, true), (3, true), (4, true), (5, true), (6, true), (7, false), (8, true), (9, true), (10, true), (11, true)] [(12, false)] [(bb, .cells [.int .i64 (d : Nat), .int .i64 (kk : Nat)].toArray 44 (0, 0))]); kernel_rfl; (exact atks); kernel_rfl; intro r' hl'); have hve2 := hve1.mono hl'.1) | ((with_reducible apply kx_call (f := 21) (cap := [])); exact goesOf Try.func21 (by kernel_rfl) rfl; rfl; rfl; exact (hA _ hl'.1); (exact atks); rintro v' H' ⟨rfl, rfl⟩; all_goals ((try simp only [List.nil_append]); (refine apk ?_))) | (exfalso; first | contradiction | omega) | (refine aw0 ?_) | (refine ap2 ?_ ?_ <;> first | exact True.intro | intro h) | (refine aw1 ?_) | (refine abx ?_; intro bb) | (refine abz ?_; intro bz) | (refine ahv ?_; intro v' hv') | (refine aac ?_; intro ac cc) | (refine aw2 ?_) | (refine ap4 ?_ ?_ <;> first | exact True.intro | intro h) | (with_reducible refine tr_two ?_ ?_))
          exact ⟨_, (by omega), i + 1, rfl, by omega, ⟨_, by (exact atks)⟩, rfl, (by first | rfl | exact congrArg some (congrArg (Value.int _) (by omega)) | exact congrArg some (congrArg (fun n => Value.slice _ n _) (by omega)) | (congr 2 <;> omega)), (by first | rfl | exact congrArg some (congrArg (Value.int _) (by omega)) | exact congrArg some (congrArg (fun n => Value.slice _ n _) (by omega)) | (congr 2 <;> omega)), (by first | rfl | exact congrArg some (congrArg (Value.int _) (by omega)) | exact congrArg some (congrArg (fun n => Value.slice _ n _) (by omega)) | (congr 2 <;> omega)), (by first | rfl | exact congrArg some (congrArg (Value.int _) (by omega)) | exact congrArg some (congrArg (fun n => Value.slice _ n _) (by omega)) | (congr 2 <;> omega)), (by first | rfl | exact congrArg some (congrArg (Value.int _) (by omega)) | exact congrArg some (congrArg (fun n => Value.slice _ n _) (by omega)) | (congr 2 <;> omega)), (by first | rfl | exact congrArg some (congrArg (Value.int _) (by omega)) | exact congrArg some (congrArg (fun n => Value.slice _ n _) (by omega)) | (congr 2 <;> omega))⟩
        · obtain rfl : i = (xs.getD k default).pl.length := by omega
          repeat' (first | (exfalso; first | contradiction | omega) | (refine aw0 ?_) | (refine ap2 ?_ ?_ <;> first | exact True.intro | intro h) | (refine aw1 ?_) | (refine abx ?_; intro bb) | (refine abz ?_; intro bz) | (refine ahv ?_; intro v' hv') | (refine aac ?_; intro ac cc) | (refine aw2 ?_) | (refine ap4 ?_ ?_ <;> first | exact True.intro | intro h) | (with_reducible refine tr_two ?_ ?_))
          exact ⟨_, (by omega), k + 1, rfl, by omega, ⟨_, by (exact atks)⟩, rfl, (by first | rfl | exact congrArg some (congrArg (Value.int _) (by omega)) | exact congrArg some (congrArg (fun n => Value.slice _ n _) (by omega)) | (congr 2 <;> omega)), (by first | rfl | exact congrArg some (congrArg (Value.int _) (by omega)) | exact congrArg some (congrArg (fun n => Value.slice _ n _) (by omega)) | (congr 2 <;> omega)), (by first | rfl | exact congrArg some (congrArg (Value.int _) (by omega)) | exact congrArg some (congrArg (fun n => Value.slice _ n _) (by omega)) | (congr 2 <;> omega)), (by first | rfl | exact congrArg some (congrArg (Value.int _) (by omega)) | exact congrArg some (congrArg (fun n => Value.slice _ n _) (by omega)) | (congr 2 <;> omega)), (by first | rfl | exact congrArg some (congrArg (Value.int _) (by omega)) | exact congrArg some (congrArg (fun n => Value.slice _ n _) (by omega)) | (congr 2 <;> omega))⟩
      · obtain rfl : k = xs.length := by omega
        rw [List.take_length, hx1, ham]
        have hrt := right_post_any r1 (.slice a1 ps.length c1) xs hP
        rw [hx1, hok] at hrt
        repeat' (first | ((with_reducible apply kx_call (f := 22) (cap := [])); exact goesOf Try.func22 (by kernel_rfl) rfl; rfl; rfl; exact (hrt); (exact atks); rintro v' H' ⟨rfl, rfl⟩; all_goals ((try simp only [List.nil_append]); (refine apk ?_))) | (exfalso; first | contradiction | omega) | (refine aw0 ?_) | (refine ap2 ?_ ?_ <;> first | exact True.intro | intro h) | (refine aw1 ?_) | (refine abx ?_; intro bb) | (refine abz ?_; intro bz) | (refine ahv ?_; intro v' hv') | (refine aac ?_; intro ac cc) | (refine aw2 ?_) | (refine ap4 ?_ ?_ <;> first | exact True.intro | intro h) | (with_reducible refine tr_two ?_ ?_))
        all_goals (((with_reducible apply fp_ret); exact res_1 rfl rfl); exact HR.out _ _ _ [] Takes.all ⟨rfl, rfl⟩)
end Go.Proofs.Ytkbajhiahpkgiaa
