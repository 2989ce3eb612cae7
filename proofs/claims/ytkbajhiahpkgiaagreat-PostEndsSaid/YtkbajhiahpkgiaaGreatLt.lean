
/- mudlarkkit.markPlace, LentPlaces: their contracts. mudlarkkit.markPosting, LentPosting: their contracts. mudlarkkit: SamePlaces, SamePosting, SamePostings, PostingsOf; post.From's comparisons: their contracts. mudlarkkit.KeptPlaces, KeptPosting: their contracts. -/
import Derived.Test.YtkbajhiahpkgiaaGreatKi
import Derived.Test.YtkbajhiahpkgiaaGreatPf
import Derived.Test.YtkbajhiahpkgiaaGreatEl
namespace Go.Proofs.YtkbajhiahpkgiaaGreat
open Go.RowKit Sx

def markPl (k i : Nat) : PlaceV := ⟨0, markN k i⟩
def marksPl (n : Nat) : List PlaceV := (List.range n).map (markPl 1)
theorem marksPl_succ (n : Nat) : marksPl (n + 1) = marksPl n ++ [markPl 1 n] := by simp [marksPl, List.range_succ]
theorem encPl_one (l : List PlaceV) : (l.flatMap encPl).all one? = true := by
  rw [List.all_eq_true]
  intro v hv
  obtain ⟨p, _, hp⟩ := List.mem_flatMap.1 hv
  simp only [encPl, List.mem_cons, List.not_mem_nil, or_false] at hp
  rcases hp with rfl | rfl <;> rfl
set_option maxHeartbeats 1000000 in
theorem markPlace_any (r : Hp) (k i : Nat) (hk : k ≤ 100000000 := by omega) (hi : i ≤ 1000000000 := by omega) : Tri Tryz.prog r 123 [.int .i64 k, .int .i64 i] [] fun w H => w = .agg [.int .i64 (0 : Int), .int .i64 (markN k i : Nat)].toArray ∧ H = [] := by
  refine Tri.free2 fun R HR => ?_
  refine fn_of_sw Tryz.func123 rfl _ rfl ?_; refine aen Tryz.ntmps123 ?_
  repeat' (first | (refine acl Tryz.func95 ?_; refine acr (mark_any r k i) ?_; rintro v' H' ⟨rfl, rfl⟩; all_goals refine apl ?_) | refine aw0 ?_ | (refine ap2 ?_ ?_ <;> try intro h) | refine aw1 ?_ | (refine abx ?_; intro bb) | (refine abz ?_; intro bz) | (refine ahv ?_; intro v' hv') | (refine aac ?_; intro ac cc) | refine aw2 ?_ | (refine ap4 ?_ ?_ <;> try intro h) | apply True.intro)
  ((with_reducible apply fp_ret); exact res_W rfl rfl (by (exact atk)) ty_agg ty_size rfl)
  exact HR.out _ _ _ [] Takes.all ⟨rfl, rfl⟩
set_option maxRecDepth 10000 in
set_option maxHeartbeats 2000000 in
theorem lentPlaces_any (r : Hp) (v : Value) (l : List PlaceV) (hv : Els r 2 encPl v l) (hl : l.length ≤ 1000000) : Tri Tryz.prog r 102 [v] [] fun w H => ∃ a c, w = .slice a l.length c ∧ H = [RowC 56 2 (.slice a (l.length + 12) c) (l.length + 12) ((l ++ marksPl 12).flatMap encPl)] := by
  refine Tri.free2 fun R HR => ?_
  refine fn_of_sw Tryz.func102 rfl _ rfl ?_; refine aen Tryz.ntmps102 ?_
  repeat' (first | ((with_reducible apply kx_make0 (c := l.length + 12)); exact ty_el; exact ty_inf; rfl; rfl; (omega); (omega); intro bm; (refine apk ?_)) | ((with_reducible apply kx_appS (news := l.flatMap encPl)); exact ty_el; exact ty_inf; rfl; rfl; rfl; rfl; exact hv.2; (exact atk); exact encPl_one l; (unfold maxLen; omega); (omega); intro a' c'; (refine apk ?_)) | refine aw0 ?_ | (refine ap2 ?_ ?_ <;> try intro h) | refine aw1 ?_ | (refine abx ?_; intro bb) | (refine abz ?_; intro bz) | (refine ahv ?_; intro v' hv') | (refine aac ?_; intro ac cc) | refine aw2 ?_ | (refine ap4 ?_ ?_ <;> try intro h) | apply True.intro)
  simp only [Nat.zero_add, List.nil_append]
  refine sw_loop (fun gm t H' => ∃ (k : Nat) (a : Option Addr) (c : Nat), gm = 13 - k ∧ (k ≤ 12) ∧ (∃ G, Takes [RowC 56 2 (.slice a (l.length + k) c) (l.length + k) ((l ++ marksPl k).flatMap encPl)] H' G) ∧ Sls t 25 [(0, v), (3, .slice a (l.length + k) c), (4, .int .i64 k)]) _ ⟨0, a', c', rfl, Nat.zero_le _, ⟨_, by rw [show marksPl 0 = [] from rfl, List.append_nil]; (exact atks)⟩, asls⟩ ?_
  rintro gm t H' ⟨k, a, c, rfl, hk, ⟨G, hp⟩, hs'⟩
  revert t; refine sls_all ?_; iterate 22 intro uu'
  refine sw_takeG hp ?_; clear hp
  refine sw_fact (by (exact atk)) (fun g h => RowC.cap h) ?_
  rintro ⟨hcap, hcm⟩
  have hcm := maxI hcm
  by_cases hlt : k < 12
  · repeat' (first | (refine acl Tryz.func123 ?_; refine acr (markPlace_any r 1 k) ?_; rintro v' H' ⟨rfl, rfl⟩; all_goals refine apl ?_) | (first | ((with_reducible apply kx_bs1); exact ty_el; exact ty_inf; rfl; rfl; rfl; intro bz; (refine apk ?_)) | ((with_reducible apply kx_bsN); exact ty_el; exact ty_inf; rfl; rfl; rfl; intro bz; (refine apk ?_))) | (first | ((with_reducible apply kx_append1); exact ty_el; exact ty_inf; rfl; rfl; rfl; (exact atk); (exact atk); rfl; (omega); intro a' c'; (refine apk ?_)) | ((with_reducible apply kx_appendN); exact ty_el; exact ty_inf; rfl; rfl; rfl; rfl; (exact atk); (exact atk); rfl; rfl; (omega); intro a' c'; (refine apk ?_))) | (exfalso; first | contradiction | omega) | refine aw0 ?_ | (refine ap2 ?_ ?_ <;> try intro h) | refine aw1 ?_ | (refine abx ?_; intro bb) | (refine abz ?_; intro bz) | (refine ahv ?_; intro v' hv') | (refine aac ?_; intro ac cc) | refine aw2 ?_ | (refine ap4 ?_ ?_ <;> try intro h) | apply True.intro)
    exact ⟨_, by omega, k + 1, a', c', rfl, by omega, ⟨_, by rw [marksPl_succ, ← List.append_assoc, List.flatMap_append, show [markPl 1 k].flatMap encPl = [.int .i64 (0 : Int), .int .i64 (markN 1 k : Nat)] from rfl]; (exact atks)⟩, asls⟩
  · obtain rfl : k = 12 := by omega
    repeat' (first | ((with_reducible apply swo_pur); (with_reducible apply pu_slX (m := l.length)); rfl; rfl; rfl; omega; (refine apk ?_)) | (exfalso; first | contradiction | omega) | refine aw0 ?_ | (refine ap2 ?_ ?_ <;> try intro h) | refine aw1 ?_ | (refine abx ?_; intro bb) | (refine abz ?_; intro bz) | (refine ahv ?_; intro v' hv') | (refine aac ?_; intro ac cc) | refine aw2 ?_ | (refine ap4 ?_ ?_ <;> try intro h) | apply True.intro)
    ((with_reducible apply fp_ret); exact res_1 rfl rfl)
    exact HR.out _ _ _ [RowC 56 2 _ _ _] (by (exact atks)) ⟨_, _, rfl, rfl⟩
end Go.Proofs.YtkbajhiahpkgiaaGreat

namespace Go.Proofs.YtkbajhiahpkgiaaGreat
open Go.RowKit Sx

set_option maxHeartbeats 1000000 in
theorem markPosting_any (r : Hp) (k i : Nat) (hk : k ≤ 100000000 := by omega) (hi : i ≤ 1000000000 := by omega) : Tri Tryz.prog r 57 [.int .i64 k, .int .i64 i] [] fun w H => w = .agg [.string (bs (markT k i)), .slice none 0 0].toArray ∧ H = [] := by
  refine Tri.free2 fun R HR => ?_
  refine fn_of_sw Tryz.func57 rfl _ rfl ?_; refine aen Tryz.ntmps57 ?_
  repeat' (first | (refine acl Tryz.func103 ?_; refine acr (markText_any r k i) ?_; rintro v' H' ⟨rfl, rfl⟩; all_goals refine apl ?_) | refine aw0 ?_ | (refine ap2 ?_ ?_ <;> try intro h) | refine aw1 ?_ | (refine abx ?_; intro bb) | (refine abz ?_; intro bz) | (refine ahv ?_; intro v' hv') | (refine aac ?_; intro ac cc) | refine aw2 ?_ | (refine ap4 ?_ ?_ <;> try intro h) | apply True.intro)
  ((with_reducible apply fp_ret); exact res_W rfl rfl (by (exact atk)) ty_agg ty_size rfl)
  exact HR.out _ _ _ [] Takes.all ⟨rfl, rfl⟩
set_option maxRecDepth 10000 in
set_option maxHeartbeats 2000000 in
theorem lentPosting_any (r : Hp) (x : PostV) (hx : Els r 2 encPl x.val x.pl) (hl : x.pl.length ≤ 1000000) : Tri Tryz.prog r 56 [.agg (encPo x).toArray] [] fun w H => ∃ a c, w = .agg [.string (bs x.gram), .slice a x.pl.length c].toArray ∧ H = [RowC 56 2 (.slice a (x.pl.length + 12) c) (x.pl.length + 12) ((x.pl ++ marksPl 12).flatMap encPl)] := by
  obtain ⟨g, v, l⟩ := x
  dsimp only at hx hl ⊢
  show Tri Tryz.prog r 56 [.agg [.string (bs g), v].toArray] [] _
  refine Tri.free2 fun R HR => ?_
  have hlp := lentPlaces_any r v l hx hl
  refine fn_of_sw Tryz.func56 rfl _ rfl ?_; refine aen Tryz.ntmps56 ?_
  repeat' (first | (refine acl Tryz.func102 ?_; refine acr (hlp) ?_; rintro v' H' ⟨a1, c1, rfl, rfl⟩; all_goals refine apl ?_) | refine aw0 ?_ | (refine ap2 ?_ ?_ <;> try intro h) | refine aw1 ?_ | (refine abx ?_; intro bb) | (refine abz ?_; intro bz) | (refine ahv ?_; intro v' hv') | (refine aac ?_; intro ac cc) | refine aw2 ?_ | (refine ap4 ?_ ?_ <;> try intro h) | apply True.intro)
  ((with_reducible apply fp_ret); exact res_W rfl rfl (by (exact atk)) ty_agg ty_size rfl)
  exact HR.out _ _ _ [RowC 56 2 _ _ _] (by (exact atks)) ⟨a1, c1, rfl, rfl⟩
end Go.Proofs.YtkbajhiahpkgiaaGreat

namespace Go.Proofs.YtkbajhiahpkgiaaGreat
open Go.RowKit Sx

set_option maxRecDepth 10000 in
set_option maxHeartbeats 1000000 in
theorem samePlaces_any (r : Hp) (v w : Value) (l m : List PlaceV) (hv : Els r 2 encPl v l) (hw : Els r 2 encPl w m) : Tri Tryz.prog r 55 [v, w] [] fun u H => u = .bool (decide (l = m)) ∧ H = [] := by
  refine Tri.free2 fun R HR => ?_
  have hlm := maxI hv.2.2.1
  refine fn_of_sw Tryz.func55 rfl _ rfl ?_; refine aen Tryz.ntmps55 ?_
  repeat' (first | refine aw0m ?_ | (refine ap2 ?_ ?_ <;> try intro h) | refine aw1m ?_ | (refine abx ?_; intro bb) | (refine abz ?_; intro bz) | (refine ahv ?_; intro v' hv') | (refine aac ?_; intro ac cc) | refine aw2 ?_ | (refine ap4 ?_ ?_ <;> try intro h) | apply True.intro)
  · ((with_reducible apply fp_ret); exact res_1 rfl rfl)
    exact HR.out _ _ _ [] (by (exact atks)) ⟨by rw [decide_eq_false]; rintro rfl; exact h rfl, rfl⟩
  · refine sw_loop (fun gm t H' => ∃ k : Nat, gm = l.length + 1 - k ∧ (k ≤ l.length) ∧ (l.take k = m.take k) ∧ (∃ G, Takes [] H' G) ∧ Sls t 26 [(0, v), (1, w), (5, .int .i64 k)]) _ ⟨0, rfl, Nat.zero_le _, by simp, ⟨[], atks⟩, asls⟩ ?_
    rintro gm t H' ⟨k, rfl, hk, ht, ⟨G, hp⟩, hs'⟩
    revert t; refine sls_all ?_; iterate 23 intro uu'
    refine sw_takeG hp ?_; clear hp
    repeat' (first | refine aw0m ?_ | (refine ap2 ?_ ?_ <;> try intro h) | (first | ((with_reducible apply sw_draw (id := 6) 9 [(0, true), (1, true), (2, true), (3, true), (4, true), (5, true), (6, true), (7, true), (8, true)] [] []); kernel_rfl; (exact atks); kernel_rfl; intro r' hl')) | refine aw1m ?_ | (refine abx ?_; intro bb) | (refine abz ?_; intro bz) | (refine ahv ?_; intro v' hv') | (refine aac ?_; intro ac cc) | refine aw2 ?_ | (refine ap4 ?_ ?_ <;> try intro h) | apply True.intro)
    · ((with_reducible apply fp_ret); exact res_1 rfl rfl)
      exact HR.out _ _ _ [] (by (exact atks)) ⟨by rw [decide_eq_false]; rintro rfl; simp at h, rfl⟩
    · exact ⟨_, by omega, k + 1, rfl, by omega, take_eqD (d := default) ht (by omega) (by omega) (PlaceV.ext2 h.1 h.2), ⟨_, atks⟩, asls⟩
    · ((with_reducible apply fp_ret); exact res_1 rfl rfl)
      exact HR.out _ _ _ [] (by (exact atks)) ⟨by rw [decide_eq_true (take_all2 ht (by omega) (by omega))], rfl⟩
def cmpG (a b : List UInt8) : Int := if Op.bytesLess a b then -1 else if a = b then 0 else 1
theorem from1_any (r : Hp) (x : PostV) (g : List UInt8) : Tri Tryz.prog r 52 [.agg (encPo x).toArray, .string (bs g)] [] fun w H => w = .int .i64 (cmpG x.gram g) ∧ H = [] := by
  refine Tri.free2 fun R HR => ?_
  unfold cmpG at HR
  cases h1 : Op.bytesLess x.gram g
  · rw [h1, if_neg (by simp)] at HR
    by_cases h2 : x.gram = g
    · rw [if_pos h2] at HR
      refine fn_of_sw Tryz.func52 rfl _ rfl ?_; refine aen Tryz.ntmps52 ?_
      repeat' (first | refine aw0m ?_ | (refine ap2 ?_ ?_ <;> try intro h) | (exfalso; first | contradiction | simp_all; done) | refine aw1m ?_ | (refine abx ?_; intro bb) | (refine abz ?_; intro bz) | (refine ahv ?_; intro v' hv') | (refine aac ?_; intro ac cc) | refine aw2 ?_ | (refine ap4 ?_ ?_ <;> try intro h) | apply True.intro)
      ((with_reducible apply fp_ret); exact res_1 rfl rfl)
      exact HR.out _ _ _ [] Takes.all ⟨rfl, rfl⟩
    · rw [if_neg h2] at HR
      refine fn_of_sw Tryz.func52 rfl _ rfl ?_; refine aen Tryz.ntmps52 ?_
      repeat' (first | refine aw0m ?_ | (refine ap2 ?_ ?_ <;> try intro h) | (exfalso; first | contradiction | simp_all; done) | refine aw1m ?_ | (refine abx ?_; intro bb) | (refine abz ?_; intro bz) | (refine ahv ?_; intro v' hv') | (refine aac ?_; intro ac cc) | refine aw2 ?_ | (refine ap4 ?_ ?_ <;> try intro h) | apply True.intro)
      ((with_reducible apply fp_ret); exact res_1 rfl rfl)
      exact HR.out _ _ _ [] Takes.all ⟨rfl, rfl⟩
  · rw [h1, if_pos rfl] at HR
    refine fn_of_sw Tryz.func52 rfl _ rfl ?_; refine aen Tryz.ntmps52 ?_
    repeat' (first | refine aw0m ?_ | (refine ap2 ?_ ?_ <;> try intro h) | (exfalso; first | contradiction | simp_all; done) | refine aw1m ?_ | (refine abx ?_; intro bb) | (refine abz ?_; intro bz) | (refine ahv ?_; intro v' hv') | (refine aac ?_; intro ac cc) | refine aw2 ?_ | (refine ap4 ?_ ?_ <;> try intro h) | apply True.intro)
    ((with_reducible apply fp_ret); exact res_1 rfl rfl)
    exact HR.out _ _ _ [] Takes.all ⟨rfl, rfl⟩
theorem from2_any (r : Hp) (p : PlaceV) (d : Int) : Tri Tryz.prog r 54 [.agg (encPl p).toArray, .int .i64 d] [] fun w H => w = .int .i64 (if p.doc < d then -1 else 1) ∧ H = [] := by
  refine Tri.free2 fun R HR => ?_
  by_cases h0 : p.doc < d
  · rw [if_pos h0] at HR
    refine fn_of_sw Tryz.func54 rfl _ rfl ?_; refine aen Tryz.ntmps54 ?_
    repeat' (first | refine aw0m ?_ | (refine ap2 ?_ ?_ <;> try intro h) | refine aw1m ?_ | (refine abx ?_; intro bb) | (refine abz ?_; intro bz) | (refine ahv ?_; intro v' hv') | (refine aac ?_; intro ac cc) | refine aw2 ?_ | (refine ap4 ?_ ?_ <;> try intro h) | apply True.intro)
    ((with_reducible apply fp_ret); exact res_1 rfl rfl)
    exact HR.out _ _ _ [] Takes.all ⟨rfl, rfl⟩
  · rw [if_neg h0] at HR
    refine fn_of_sw Tryz.func54 rfl _ rfl ?_; refine aen Tryz.ntmps54 ?_
    repeat' (first | refine aw0m ?_ | (refine ap2 ?_ ?_ <;> try intro h) | refine aw1m ?_ | (refine abx ?_; intro bb) | (refine abz ?_; intro bz) | (refine ahv ?_; intro v' hv') | (refine aac ?_; intro ac cc) | refine aw2 ?_ | (refine ap4 ?_ ?_ <;> try intro h) | apply True.intro)
    ((with_reducible apply fp_ret); exact res_1 rfl rfl)
    exact HR.out _ _ _ [] Takes.all ⟨rfl, rfl⟩
theorem samePosting_any (r : Hp) (x y : PostV) (hx : Els r 2 encPl x.val x.pl) (hy : Els r 2 encPl y.val y.pl) : Tri Tryz.prog r 38 [.agg (encPo x).toArray, .agg (encPo y).toArray] [] fun w H => w = .bool (decide (unP x = unP y)) ∧ H = [] := by
  refine Tri.free2 fun R HR => ?_
  have hs := samePlaces_any r x.val y.val x.pl y.pl hx hy
  by_cases h1 : x.gram = y.gram
  · by_cases h2 : x.pl = y.pl
    · rw [decide_eq_true (show unP x = unP y by unfold unP; rw [h1, h2])] at HR
      rw [decide_eq_true h2] at hs
      refine fn_of_sw Tryz.func38 rfl _ rfl ?_; refine aen Tryz.ntmps38 ?_
      repeat' (first | refine aw0m ?_ | (refine ap2 ?_ ?_ <;> try intro h) | (refine acl Tryz.func55 ?_; refine acr (hs) ?_; rintro v' H' ⟨rfl, rfl⟩; all_goals refine apl ?_) | (exfalso; contradiction) | refine aw1m ?_ | (refine abx ?_; intro bb) | (refine abz ?_; intro bz) | (refine ahv ?_; intro v' hv') | (refine aac ?_; intro ac cc) | refine aw2 ?_ | (refine ap4 ?_ ?_ <;> try intro h) | apply True.intro)
      ((with_reducible apply fp_ret); exact res_1 rfl rfl)
      exact HR.out _ _ _ [] Takes.all ⟨rfl, rfl⟩
    · rw [decide_eq_false (show ¬ unP x = unP y from fun e => h2 (congrArg (·.2) e))] at HR
      rw [decide_eq_false h2] at hs
      refine fn_of_sw Tryz.func38 rfl _ rfl ?_; refine aen Tryz.ntmps38 ?_
      repeat' (first | refine aw0m ?_ | (refine ap2 ?_ ?_ <;> try intro h) | (refine acl Tryz.func55 ?_; refine acr (hs) ?_; rintro v' H' ⟨rfl, rfl⟩; all_goals refine apl ?_) | (exfalso; contradiction) | refine aw1m ?_ | (refine abx ?_; intro bb) | (refine abz ?_; intro bz) | (refine ahv ?_; intro v' hv') | (refine aac ?_; intro ac cc) | refine aw2 ?_ | (refine ap4 ?_ ?_ <;> try intro h) | apply True.intro)
      ((with_reducible apply fp_ret); exact res_1 rfl rfl)
      exact HR.out _ _ _ [] Takes.all ⟨rfl, rfl⟩
  · rw [decide_eq_false (show ¬ unP x = unP y from fun e => h1 (congrArg (·.1) e))] at HR
    refine fn_of_sw Tryz.func38 rfl _ rfl ?_; refine aen Tryz.ntmps38 ?_
    repeat' (first | refine aw0m ?_ | (refine ap2 ?_ ?_ <;> try intro h) | (exfalso; contradiction) | refine aw1m ?_ | (refine abx ?_; intro bb) | (refine abz ?_; intro bz) | (refine ahv ?_; intro v' hv') | (refine aac ?_; intro ac cc) | refine aw2 ?_ | (refine ap4 ?_ ?_ <;> try intro h) | apply True.intro)
    ((with_reducible apply fp_ret); exact res_1 rfl rfl)
    exact HR.out _ _ _ [] Takes.all ⟨rfl, rfl⟩
theorem map_getD {xs : List PostV} {k : Nat} (h : k < xs.length) : (xs.map unP).getD k default = unP (xs.getD k default) := by
  rw [List.getD_eq_getElem?_getD, List.getD_eq_getElem?_getD, List.getElem?_map, List.getElem?_eq_getElem h]; rfl
set_option maxRecDepth 10000 in
set_option maxHeartbeats 1000000 in
theorem samePostings_any (r : Hp) (v w : Value) (xs ys : List PostV) (hv : Posts r v xs) (hw : Posts r w ys) : Tri Tryz.prog r 11 [v, w] [] fun u H => u = .bool (decide (xs.map unP = ys.map unP)) ∧ H = [] := by
  refine Tri.free2 fun R HR => ?_
  have hlm := maxI hv.1.2.2.1
  have hve := hv.1
  have hwe := hw.1
  refine fn_of_sw Tryz.func11 rfl _ rfl ?_; refine aen Tryz.ntmps11 ?_
  repeat' (first | refine aw0m ?_ | (refine ap2 ?_ ?_ <;> try intro h) | refine aw1m ?_ | (refine abx ?_; intro bb) | (refine abz ?_; intro bz) | (refine ahv ?_; intro v' hv') | (refine aac ?_; intro ac cc) | refine aw2 ?_ | (refine ap4 ?_ ?_ <;> try intro h) | apply True.intro)
  · ((with_reducible apply fp_ret); exact res_1 rfl rfl)
    exact HR.out _ _ _ [] (by (exact atks)) ⟨by rw [decide_eq_false]; intro e; have := congrArg List.length e; simp at this; omega, rfl⟩
  · refine sw_loop (fun gm t H' => ∃ k : Nat, gm = xs.length + 1 - k ∧ (k ≤ xs.length) ∧ ((xs.map unP).take k = (ys.map unP).take k) ∧ (∃ G, Takes [] H' G) ∧ Sls t 27 [(0, v), (1, w), (5, .int .i64 k)]) _ ⟨0, rfl, Nat.zero_le _, by simp, ⟨[], atks⟩, asls⟩ ?_
    rintro gm t H' ⟨k, rfl, hk, ht, ⟨G, hp⟩, hs'⟩
    revert t; refine sls_all ?_; iterate 24 intro uu'
    refine sw_takeG hp ?_; clear hp
    by_cases hlt : k < xs.length
    · have h1 := hv.2 _ (getD_mem hlt)
      have hlt2 : k < ys.length := by omega
      have h2 := hw.2 _ (getD_mem hlt2)
      have hsp := fun r' (hr : sub r r') => samePosting_any r' (xs.getD k default) (ys.getD k default) (h1.mono hr) (h2.mono hr)
      by_cases he : unP (xs.getD k default) = unP (ys.getD k default)
      · rw [decide_eq_true he] at hsp
        repeat' (first | refine aw0m ?_ | (refine ap2 ?_ ?_ <;> try intro h) | (first | ((with_reducible apply sw_draw (id := 6) 10 [(0, true), (1, true), (2, true), (3, true), (4, true), (5, true), (6, true), (7, true), (8, false), (9, true)] [] []); kernel_rfl; (exact atks); kernel_rfl; intro r' hl')) | (refine acl Tryz.func38 ?_; refine acr (hsp _ hl'.1) ?_; rintro v' H' ⟨rfl, rfl⟩; all_goals refine apl ?_) | (exfalso; contradiction) | refine aw1m ?_ | (refine abx ?_; intro bb) | (refine abz ?_; intro bz) | (refine ahv ?_; intro v' hv') | (refine aac ?_; intro ac cc) | refine aw2 ?_ | (refine ap4 ?_ ?_ <;> try intro h) | apply True.intro)
        exact ⟨_, by omega, k + 1, rfl, by omega, take_eqD (d := default) ht (by rw [List.length_map]; omega) (by rw [List.length_map]; omega) (by rw [map_getD hlt, map_getD hlt2, he]), ⟨_, atks⟩, asls⟩
      · rw [decide_eq_false he] at hsp
        repeat' (first | refine aw0m ?_ | (refine ap2 ?_ ?_ <;> try intro h) | (first | ((with_reducible apply sw_draw (id := 6) 10 [(0, true), (1, true), (2, true), (3, true), (4, true), (5, true), (6, true), (7, true), (8, false), (9, true)] [] []); kernel_rfl; (exact atks); kernel_rfl; intro r' hl')) | (refine acl Tryz.func38 ?_; refine acr (hsp _ hl'.1) ?_; rintro v' H' ⟨rfl, rfl⟩; all_goals refine apl ?_) | (exfalso; contradiction) | refine aw1m ?_ | (refine abx ?_; intro bb) | (refine abz ?_; intro bz) | (refine ahv ?_; intro v' hv') | (refine aac ?_; intro ac cc) | refine aw2 ?_ | (refine ap4 ?_ ?_ <;> try intro h) | apply True.intro)
        ((with_reducible apply fp_ret); exact res_1 rfl rfl)
        exact HR.out _ _ _ [] Takes.all ⟨by rw [decide_eq_false]; intro e; apply he; rw [← map_getD hlt, ← map_getD hlt2, e], rfl⟩
    · repeat' (first | refine aw0m ?_ | (refine ap2 ?_ ?_ <;> try intro h) | refine aw1m ?_ | (refine abx ?_; intro bb) | (refine abz ?_; intro bz) | (refine ahv ?_; intro v' hv') | (refine aac ?_; intro ac cc) | refine aw2 ?_ | (refine ap4 ?_ ?_ <;> try intro h) | apply True.intro)
      ((with_reducible apply fp_ret); exact res_1 rfl rfl)
      exact HR.out _ _ _ [] (by (exact atks)) ⟨by rw [decide_eq_true (take_all2 ht (by rw [List.length_map]; omega) (by rw [List.length_map]; omega))], rfl⟩
end Go.Proofs.YtkbajhiahpkgiaaGreat

namespace Go.Proofs.YtkbajhiahpkgiaaGreat
open Go.RowKit Sx

theorem marksPl_len (n : Nat) : (marksPl n).length = n := by simp [marksPl]
set_option maxRecDepth 10000 in
set_option maxHeartbeats 4000000 in
theorem keptPlaces_any (r : Hp) (a : Option Addr) (c : Nat) (w : Value) (l : List PlaceV) (hc : l.length + 12 ≤ c) (hv : Els r 2 encPl (.slice a (l.length + 12) c) (l ++ marksPl 12)) (hw : Els r 2 encPl w l) : Tri Tryz.prog r 110 [.slice a l.length c, w] [] fun u H => u = .bool true ∧ H = [] := by
  refine Tri.free2 fun R HR => ?_
  have hlen : (l ++ marksPl 12).length = l.length + 12 := by rw [List.length_append, marksPl_len]
  have hlm : l.length + 12 ≤ 9223372036854775807 := by have := maxI hv.2.2.1; omega
  refine fn_of_sw Tryz.func110 rfl _ rfl ?_; refine aen Tryz.ntmps110 ?_
  repeat' (first | ((with_reducible apply swo_pur); (with_reducible apply pu_slX (m := l.length + 12)); rfl; rfl; omega; omega; (refine apk ?_)) | (exfalso; first | contradiction | omega) | refine aw0 ?_ | (refine ap2 ?_ ?_ <;> try intro h) | refine aw1 ?_ | (refine abx ?_; intro bb) | (refine abz ?_; intro bz) | (refine ahv ?_; intro v' hv') | (refine aac ?_; intro ac cc) | refine aw2 ?_ | (refine ap4 ?_ ?_ <;> try intro h) | apply True.intro)
  refine sw_loop (fun gm t H' => ∃ k : Nat, gm = l.length + 13 - k ∧ (k ≤ l.length + 12) ∧ (∃ G, Takes [] H' G) ∧ Sls t 58 [(1, w), (5, .slice a (l.length + 12) c), (6, .int .i64 k)]) _ ⟨0, rfl, Nat.zero_le _, ⟨_, by (exact atks)⟩, asls⟩ ?_
  rintro gm t H' ⟨k, rfl, hk, ⟨G, hp⟩, hs'⟩
  revert t; refine sls_all ?_; iterate 55 intro uu'
  refine sw_takeG hp ?_; clear hp
  by_cases hkl : k < l.length
  · have he : (l ++ marksPl 12).getD k default = l.getD k default := by
      rw [List.getD_eq_getElem?_getD, List.getD_eq_getElem?_getD, List.getElem?_append_left hkl]
    repeat' (first | (first | ((with_reducible apply sw_draw (id := 7) 35 [(0, true), (1, true), (2, true), (3, true), (4, true), (5, true), (6, true), (7, true), (8, true), (9, true), (10, true), (11, true), (12, true), (13, true), (14, true), (15, true), (16, true), (17, true), (18, true), (19, true), (20, true), (21, true), (22, true), (23, true), (24, true), (25, true), (26, true), (27, true), (28, true), (29, true), (30, false), (31, true), (32, true), (33, true), (34, true)] [] []); kernel_rfl; (exact atks); kernel_rfl; intro r' hl')) | (rw [he]) | (exfalso; first | contradiction | omega) | refine aw0 ?_ | (refine ap2 ?_ ?_ <;> try intro h) | refine aw1 ?_ | (refine abx ?_; intro bb) | (refine abz ?_; intro bz) | (refine ahv ?_; intro v' hv') | (refine aac ?_; intro ac cc) | refine aw2 ?_ | (refine ap4 ?_ ?_ <;> try intro h) | apply True.intro)
    all_goals exact ⟨_, by omega, k + 1, rfl, by omega, ⟨_, atks⟩, asls⟩
  · by_cases hk2 : k < l.length + 12
    · obtain ⟨j, rfl⟩ : ∃ j, k = l.length + j := ⟨k - l.length, by omega⟩
      have he : (l ++ marksPl 12).getD (l.length + j) default = markPl 1 j := by
        rw [List.getD_eq_getElem?_getD, List.getElem?_append_right (by omega)]
        simp [marksPl, show j < 12 by omega]
      repeat' (first | (first | ((with_reducible apply sw_draw (id := 7) 35 [(0, true), (1, true), (2, true), (3, true), (4, true), (5, true), (6, true), (7, true), (8, true), (9, true), (10, true), (11, true), (12, true), (13, true), (14, true), (15, true), (16, true), (17, true), (18, true), (19, true), (20, true), (21, true), (22, true), (23, true), (24, true), (25, true), (26, true), (27, true), (28, true), (29, true), (30, false), (31, true), (32, true), (33, true), (34, true)] [] []); kernel_rfl; (exact atks); kernel_rfl; intro r' hl')) | (rw [he, show encPl (markPl 1 j) = [.int .i64 (0 : Int), .int .i64 (markN 1 j : Nat)] from rfl]) | (refine acl Tryz.func123 ?_; refine acr (by rw [show (((l.length + j : Nat) : Int) - (l.length : Nat)) = ((j : Nat) : Int) by omega]; exact markPlace_any _ 1 j) ?_; rintro v' H' ⟨rfl, rfl⟩; all_goals refine apl ?_) | (exfalso; first | contradiction | omega) | refine aw0 ?_ | (refine ap2 ?_ ?_ <;> try intro h) | refine aw1 ?_ | (refine abx ?_; intro bb) | (refine abz ?_; intro bz) | (refine ahv ?_; intro v' hv') | (refine aac ?_; intro ac cc) | refine aw2 ?_ | (refine ap4 ?_ ?_ <;> try intro h) | apply True.intro)
      all_goals exact ⟨_, by omega, l.length + j + 1, rfl, by omega, ⟨_, atks⟩, asls⟩
    · obtain rfl : k = l.length + 12 := by omega
      repeat' (first | (exfalso; first | contradiction | omega) | refine aw0 ?_ | (refine ap2 ?_ ?_ <;> try intro h) | refine aw1 ?_ | (refine abx ?_; intro bb) | (refine abz ?_; intro bz) | (refine ahv ?_; intro v' hv') | (refine aac ?_; intro ac cc) | refine aw2 ?_ | (refine ap4 ?_ ?_ <;> try intro h) | apply True.intro)
      ((with_reducible apply fp_ret); exact res_1 rfl rfl)
      exact HR.out _ _ _ [] Takes.all ⟨rfl, rfl⟩
set_option maxRecDepth 10000 in
set_option maxHeartbeats 2000000 in
theorem keptPosting_any (r : Hp) (g : List UInt8) (a : Option Addr) (c : Nat) (w : Value) (l : List PlaceV) (hc : l.length + 12 ≤ c) (hv : Els r 2 encPl (.slice a (l.length + 12) c) (l ++ marksPl 12)) (hn : Els r 2 encPl (.slice a l.length c) l) (hw : Els r 2 encPl w l) : Tri Tryz.prog r 68 [.agg (encPo ⟨g, .slice a l.length c, l⟩).toArray, .agg (encPo ⟨g, w, l⟩).toArray] [] fun u H => u = .bool true ∧ H = [] := by
  refine Tri.free2 fun R HR => ?_
  have hs := fun r' (hr : sub r r') => (samePosting_any r' ⟨g, .slice a l.length c, l⟩ ⟨g, w, l⟩ (hn.mono hr) (hw.mono hr)).mono (R' := fun u H => u = .bool true ∧ H = []) (fun u H ⟨e1, e2⟩ => ⟨e1.trans (congrArg Value.bool (decide_eq_true rfl)), e2⟩)
  have hkp := keptPlaces_any r a c w l hc hv hw
  show Tri Tryz.prog r 68 [.agg [.string (bs g), .slice a l.length c].toArray, .agg [.string (bs g), w].toArray] [] _
  refine fn_of_sw Tryz.func68 rfl _ rfl ?_; refine aen Tryz.ntmps68 ?_
  repeat' (first | (refine acl Tryz.func38 ?_; refine acr (hs _ (fun _ _ h => h)) ?_; rintro v' H' ⟨rfl, rfl⟩; all_goals refine apl ?_) | (refine acl Tryz.func110 ?_; refine acr (hkp) ?_; rintro v' H' ⟨rfl, rfl⟩; all_goals refine apl ?_) | (exfalso; first | contradiction | omega) | refine aw0 ?_ | (refine ap2 ?_ ?_ <;> try intro h) | refine aw1 ?_ | (refine abx ?_; intro bb) | (refine abz ?_; intro bz) | (refine ahv ?_; intro v' hv') | (refine aac ?_; intro ac cc) | refine aw2 ?_ | (refine ap4 ?_ ?_ <;> try intro h) | apply True.intro)
  all_goals (((with_reducible apply fp_ret); exact res_1 rfl rfl); exact HR.out _ _ _ [] Takes.all ⟨rfl, rfl⟩)
end Go.Proofs.YtkbajhiahpkgiaaGreat
