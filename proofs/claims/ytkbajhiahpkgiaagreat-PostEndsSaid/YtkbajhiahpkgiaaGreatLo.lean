
/- mudlarkkit.LentPostings, KeptPostings: their contracts. -/
import Derived.Test.YtkbajhiahpkgiaaGreatLt
import Derived.Test.YtkbajhiahpkgiaaGreatKw
namespace Go.Proofs.YtkbajhiahpkgiaaGreat
open Go.RowKit Sx

/-- A posting whose places were lent, with marks behind them. -/
structure LpV where
  gram : List UInt8
  a : Option Addr
  c : Nat
  pl : List PlaceV
  deriving Inhabited
def lpV (x : LpV) : PostV := ⟨x.gram, .slice x.a x.pl.length x.c, x.pl⟩
def wideP (x : LpV) : Ch := RowC 56 2 (.slice x.a (x.pl.length + 12) x.c) (x.pl.length + 12) ((x.pl ++ marksPl 12).flatMap encPl)
def WideP (r : Hp) (x : LpV) : Prop := x.pl.length + 12 ≤ x.c ∧ Els r 2 encPl (.slice x.a (x.pl.length + 12) x.c) (x.pl ++ marksPl 12)
def markPo (k i : Nat) : PostV := ⟨markT k i, .slice none 0 0, []⟩
def marksPo (n : Nat) : List PostV := (List.range n).map (markPo 1)
theorem marksPo_succ (n : Nat) : marksPo (n + 1) = marksPo n ++ [markPo 1 n] := by simp [marksPo, List.range_succ]
theorem marksPo_len (n : Nat) : (marksPo n).length = n := by simp [marksPo]
theorem WideP.of {x : LpV} {g r : Hp} (h : wideP x g) (hs : sub g r) : WideP r x :=
  ⟨(RowC.cap h).1, ⟨fun _ => rfl, by rw [List.length_append, marksPl_len]; exact h.sl hs⟩⟩
theorem WideP.mono {r r' : Hp} {x : LpV} (h : WideP r x) (hr : sub r r') : WideP r' x := ⟨h.1, h.2.mono hr⟩
theorem WideP.els {r : Hp} {x : LpV} (h : WideP r x) : Els r 2 encPl (lpV x).val (lpV x).pl := by
  have h0 : Sl r 2 (.slice x.a (x.pl.length + 12) x.c) (x.pl.length + 12) ((x.pl ++ marksPl 12).flatMap encPl) := by
    have := h.2.2
    rwa [List.length_append, marksPl_len] at this
  have h1 := Sl.narrow (m := x.pl.length) h0 (by omega)
  refine ⟨fun _ => rfl, ?_⟩
  have e : ((x.pl ++ marksPl 12).flatMap encPl).take (x.pl.length * 2) = x.pl.flatMap encPl := by
    rw [List.flatMap_append, ← flat_len (enc := encPl) (fun _ => rfl) x.pl, List.take_left]
  rw [e] at h1
  exact h1
theorem widep_all {r : Hp} : ∀ {Z : List LpV} {g : Hp}, all (Z.map wideP) g → sub g r → ∀ z ∈ Z, WideP r z
  | [], _, _, _, _, hz => by cases hz
  | y :: Z, g, h, hs, z, hz => by
    obtain ⟨g1, g2, dd, rfl, h1, h2⟩ := h
    rcases List.mem_cons.1 hz with rfl | hz
    · exact WideP.of h1 (fun b o e => hs b o (un_left e))
    · exact widep_all h2 (fun b o e => hs b o (un_right dd e)) z hz
theorem widep_snoc {Z : List LpV} {x : LpV} (h : Hp) (e : all [all (Z.map wideP), wideP x] h) : all ((Z ++ [x]).map wideP) h := by
  have h1 := all_perm (List.Perm.swap _ _ _) e
  have h2 := (all_fold (L1 := [wideP x]) (L2 := Z.map wideP)).1 h1
  refine all_perm ?_ h2
  rw [List.map_append]
  exact List.perm_append_comm (l₁ := [_])
theorem els_nil (r : Hp) : Els r 2 encPl (.slice none 0 0) [] := ⟨fun _ => rfl, by
  have := (RowC.nil 56 2 : RowC 56 2 (.slice none 0 0) 0 [] emp).sl (r := r) (fun b o e => by cases e)
  exact this⟩
set_option maxRecDepth 10000 in
set_option maxHeartbeats 2000000 in
theorem lentPostings_any (r : Hp) (v : Value) (xs : List PostV) (hv : Posts r v xs) (hn : xs.length ≤ 1000000) (hl : ∀ x ∈ xs, x.pl.length ≤ 1000000) : Tri Tryz.prog r 23 [v] [] fun w H => ∃ a c, ∃ Z : List LpV, (Z.map lpV).map unP = xs.map unP ∧ w = .slice a xs.length c ∧ H = [RowC 53 2 (.slice a (xs.length + 12) c) (xs.length + 12) ((Z.map lpV ++ marksPo 12).flatMap encPo), all (Z.map wideP)] := by
  refine Tri.free2 fun R HR => ?_
  have hve := hv.1
  refine fn_of_sw Tryz.func23 rfl _ rfl ?_; refine aen Tryz.ntmps23 ?_
  refine sw_put (A := all (([] : List LpV).map wideP)) rfl ?_
  repeat' (first | ((with_reducible apply kx_make0 (c := xs.length + 12)); exact ty_el; exact ty_inf; rfl; rfl; (omega); (omega); intro bm; (refine apk ?_)) | refine aw0 ?_ | (refine ap2 ?_ ?_ <;> try intro h) | refine aw1 ?_ | (refine abx ?_; intro bb) | (refine abz ?_; intro bz) | (refine ahv ?_; intro v' hv') | (refine aac ?_; intro ac cc) | refine aw2 ?_ | (refine ap4 ?_ ?_ <;> try intro h) | apply True.intro)
  refine sw_loop (fun gm t H' => ∃ (k : Nat) (Z : List LpV) (a : Option Addr) (c : Nat), gm = xs.length + 1 - k ∧ (k ≤ xs.length) ∧ ((Z.map lpV).map unP = (xs.take k).map unP) ∧ (∃ G, Takes [RowC 53 2 (.slice a k c) k ((Z.map lpV).flatMap encPo), all (Z.map wideP)] H' G) ∧ Sls t 39 [(0, v), (3, .slice a k c), (4, .int .i64 k)]) _ ⟨0, [], _, _, rfl, Nat.zero_le _, rfl, ⟨_, by (exact atks)⟩, asls⟩ ?_
  rintro gm t H' ⟨k, Z, a, c, rfl, hk, hZ, ⟨G, hp⟩, hs'⟩
  revert t; refine sls_all ?_; iterate 36 intro uu'
  refine sw_takeG hp ?_; clear hp
  have hZl : Z.length = k := by
    have h := congrArg List.length hZ
    rw [List.length_map, List.length_map, List.length_map, List.length_take] at h
    omega
  by_cases hlt : k < xs.length
  · have hm := getD_mem hlt
    have hb := hv.2 _ hm
    have hbl := hl _ hm
    have htk : (xs.take (k + 1)).map unP = (xs.take k).map unP ++ [unP (xs.getD k default)] := by
      rw [List.take_succ_eq_append_getElem hlt, List.map_append, List.getD_eq_getElem?_getD, List.getElem?_eq_getElem hlt]; rfl
    have hlb := lentPosting_any r _ hb hbl
    repeat' (first | fail | (refine acl Tryz.func56 ?_; refine acr (hlb) ?_; rintro v' H' ⟨a1, c1, rfl, rfl⟩; all_goals refine apl ?_) | (first | ((with_reducible apply kx_bs1); exact ty_el; exact ty_inf; rfl; rfl; rfl; intro bz; (refine apk ?_)) | ((with_reducible apply kx_bsN); exact ty_el; exact ty_inf; rfl; rfl; rfl; intro bz; (refine apk ?_))) | (first | ((with_reducible apply kx_append1); exact ty_el; exact ty_inf; rfl; rfl; rfl; (exact atk); (exact atk); rfl; omega; intro a' c'; (refine apk ?_)) | ((with_reducible apply kx_appendN); exact ty_el; exact ty_inf; rfl; rfl; rfl; rfl; (exact atk); (exact atk); rfl; rfl; omega; intro a' c'; (refine apk ?_))) | ((with_reducible apply sw_joinA (c := .region 4 _ _) (As := [all (Z.map wideP), RowC 56 2 (.slice a1 ((xs.getD k default).pl.length + 12) c1) ((xs.getD k default).pl.length + 12) (((xs.getD k default).pl ++ marksPl 12).flatMap encPl)]) (D := all ((Z ++ [(⟨(xs.getD k default).gram, a1, c1, (xs.getD k default).pl⟩ : LpV)]).map wideP))); (with_reducible (exact atks)); (intro h' e; exact widep_snoc (x := (⟨(xs.getD k default).gram, a1, c1, (xs.getD k default).pl⟩ : LpV)) h' e)) | (exfalso; first | contradiction | omega) | refine aw0 ?_ | (refine ap2 ?_ ?_ <;> try intro h) | refine aw1 ?_ | (refine abx ?_; intro bb) | (refine abz ?_; intro bz) | (refine ahv ?_; intro v' hv') | (refine aac ?_; intro ac cc) | refine aw2 ?_ | (refine ap4 ?_ ?_ <;> try intro h) | apply True.intro)
    exact ⟨_, by omega, k + 1, Z ++ [(⟨(xs.getD k default).gram, a1, c1, (xs.getD k default).pl⟩ : LpV)], a', c', rfl, by omega, by rw [htk, List.map_append, List.map_append, hZ]; rfl, ⟨_, by rw [List.map_append, List.flatMap_append]; (exact atks)⟩, asls⟩
  · obtain rfl : k = xs.length := by omega
    rw [List.take_length] at hZ
    have hlm : (Z.map lpV).length = xs.length := by rw [List.length_map, hZl]
    repeat' (first | (exfalso; first | contradiction | omega) | refine aw0 ?_ | (refine ap2 ?_ ?_ <;> try intro h) | refine aw1 ?_ | (refine abx ?_; intro bb) | (refine abz ?_; intro bz) | (refine ahv ?_; intro v' hv') | (refine aac ?_; intro ac cc) | refine aw2 ?_ | (refine ap4 ?_ ?_ <;> try intro h) | apply True.intro)
    refine sw_loop (fun gm t H' => ∃ (k : Nat) (a : Option Addr) (c : Nat), gm = 13 - k ∧ (k ≤ 12) ∧ (∃ G, Takes [RowC 53 2 (.slice a (xs.length + k) c) (xs.length + k) ((Z.map lpV ++ marksPo k).flatMap encPo), all (Z.map wideP)] H' G) ∧ Sls t 39 [(0, v), (3, .slice a (xs.length + k) c), (6, .int .i64 k)]) _ ⟨0, a, c, rfl, Nat.zero_le _, ⟨_, by rw [show marksPo 0 = [] from rfl, List.append_nil]; (exact atks)⟩, asls⟩ ?_
    rintro gm t H' ⟨k, a, c, rfl, hk, ⟨G, hp⟩, hs'⟩
    revert t; refine sls_all ?_; iterate 36 intro uu'
    refine sw_takeG hp ?_; clear hp
    refine sw_fact (A := RowC 53 2 (.slice a (xs.length + k) c) (xs.length + k) ((Z.map lpV ++ marksPo k).flatMap encPo)) (by (exact atk)) (fun g h => RowC.cap h) ?_
    rintro ⟨hcap, hcm⟩
    have hcm := maxI hcm
    by_cases hlt : k < 12
    · repeat' (first | (refine acl Tryz.func57 ?_; refine acr (markPosting_any r 1 k) ?_; rintro v' H' ⟨rfl, rfl⟩; all_goals refine apl ?_) | (first | ((with_reducible apply kx_bs1); exact ty_el; exact ty_inf; rfl; rfl; rfl; intro bz; (refine apk ?_)) | ((with_reducible apply kx_bsN); exact ty_el; exact ty_inf; rfl; rfl; rfl; intro bz; (refine apk ?_))) | (first | ((with_reducible apply kx_append1); exact ty_el; exact ty_inf; rfl; rfl; rfl; (exact atk); (exact atk); rfl; (omega); intro a' c'; (refine apk ?_)) | ((with_reducible apply kx_appendN); exact ty_el; exact ty_inf; rfl; rfl; rfl; rfl; (exact atk); (exact atk); rfl; rfl; (omega); intro a' c'; (refine apk ?_))) | (exfalso; first | contradiction | omega) | refine aw0 ?_ | (refine ap2 ?_ ?_ <;> try intro h) | refine aw1 ?_ | (refine abx ?_; intro bb) | (refine abz ?_; intro bz) | (refine ahv ?_; intro v' hv') | (refine aac ?_; intro ac cc) | refine aw2 ?_ | (refine ap4 ?_ ?_ <;> try intro h) | apply True.intro)
      exact ⟨_, by omega, k + 1, a', c', rfl, by omega, ⟨_, by rw [marksPo_succ, ← List.append_assoc, List.flatMap_append, show [markPo 1 k].flatMap encPo = [.string (bs (markT 1 k)), .slice none 0 0] from rfl]; (exact atks)⟩, asls⟩
    · obtain rfl : k = 12 := by omega
      repeat' (first | ((with_reducible apply swo_pur); (with_reducible apply pu_slX (m := xs.length)); rfl; rfl; rfl; omega; (refine apk ?_)) | (exfalso; first | contradiction | omega) | refine aw0 ?_ | (refine ap2 ?_ ?_ <;> try intro h) | refine aw1 ?_ | (refine abx ?_; intro bb) | (refine abz ?_; intro bz) | (refine ahv ?_; intro v' hv') | (refine aac ?_; intro ac cc) | refine aw2 ?_ | (refine ap4 ?_ ?_ <;> try intro h) | apply True.intro)
      ((with_reducible apply fp_ret); exact res_1 rfl rfl)
      exact HR.out _ _ _ [RowC 53 2 _ _ _, all (Z.map wideP)] (by (exact atks)) ⟨_, _, Z, hZ, rfl, rfl⟩
set_option maxRecDepth 10000 in
set_option maxHeartbeats 4000000 in
theorem keptPostings_any (r : Hp) (a : Option Addr) (c : Nat) (w : Value) (Z : List LpV) (xs : List PostV) (hc : Z.length + 12 ≤ c) (hv : Els r 2 encPo (.slice a (Z.length + 12) c) (Z.map lpV ++ marksPo 12)) (hZ : ∀ z ∈ Z, WideP r z) (hw : Posts r w xs) (hz : (Z.map lpV).map unP = xs.map unP) : Tri Tryz.prog r 32 [.slice a Z.length c, w] [] fun u H => u = .bool true ∧ H = [] := by
  refine Tri.free2 fun R HR => ?_
  have hwe := hw.1
  have hlz : Z.length = xs.length := by have h := congrArg List.length hz; rwa [List.length_map, List.length_map, List.length_map] at h
  have hlen : (Z.map lpV ++ marksPo 12).length = Z.length + 12 := by rw [List.length_append, marksPo_len, List.length_map]
  have hlm : Z.length + 12 ≤ 9223372036854775807 := by have := maxI hv.2.2.1; omega
  refine fn_of_sw Tryz.func32 rfl _ rfl ?_; refine aen Tryz.ntmps32 ?_
  repeat' (first | ((with_reducible apply swo_pur); (with_reducible apply pu_slX (m := Z.length + 12)); rfl; rfl; omega; omega; (refine apk ?_)) | (exfalso; first | contradiction | omega) | refine aw0 ?_ | (refine ap2 ?_ ?_ <;> try intro h) | refine aw1 ?_ | (refine abx ?_; intro bb) | (refine abz ?_; intro bz) | (refine ahv ?_; intro v' hv') | (refine aac ?_; intro ac cc) | refine aw2 ?_ | (refine ap4 ?_ ?_ <;> try intro h) | apply True.intro)
  refine sw_loop (fun gm t H' => ∃ k : Nat, gm = Z.length + 13 - k ∧ (k ≤ Z.length + 12) ∧ (∃ G, Takes [] H' G) ∧ Sls t 58 [(1, w), (5, .slice a (Z.length + 12) c), (6, .int .i64 k)]) _ ⟨0, rfl, Nat.zero_le _, ⟨_, by (exact atks)⟩, asls⟩ ?_
  rintro gm t H' ⟨k, rfl, hk, ⟨G, hp⟩, hs'⟩
  revert t; refine sls_all ?_; iterate 55 intro uu'
  refine sw_takeG hp ?_; clear hp
  by_cases hkl : k < Z.length
  · have hkx : k < xs.length := by omega
    have he : (Z.map lpV ++ marksPo 12).getD k default = lpV (Z.getD k default) := by
      rw [List.getD_eq_getElem?_getD, List.getElem?_append_left (by rw [List.length_map]; exact hkl), List.getElem?_map, List.getD_eq_getElem?_getD, List.getElem?_eq_getElem hkl]; rfl
    have hzk := hZ _ (getD_mem hkl)
    have hxk := hw.2 _ (getD_mem hkx)
    have hu : unP (lpV (Z.getD k default)) = unP (xs.getD k default) := by
      have h1 := congrArg (fun l => l[k]?) hz
      simp only [List.getElem?_map] at h1
      rw [List.getElem?_eq_getElem hkl, List.getElem?_eq_getElem hkx] at h1
      rw [List.getD_eq_getElem?_getD, List.getD_eq_getElem?_getD, List.getElem?_eq_getElem hkl, List.getElem?_eq_getElem hkx]
      simpa using h1
    generalize hx : xs.getD k default = x at hxk hu
    generalize Z.getD k default = z at he hzk hu
    obtain ⟨g, u, l⟩ := x
    obtain ⟨g2, a2, c2, l2⟩ := z
    simp only [unP, lpV, Prod.mk.injEq] at hu
    obtain ⟨rfl, rfl⟩ := hu
    change _ = (⟨g2, .slice a2 l2.length c2, l2⟩ : PostV) at he
    have hkb := fun r' (hr : sub r r') => keptPosting_any r' g2 a2 c2 u l2 hzk.1 (hzk.2.mono hr) (hzk.els.mono hr) (hxk.mono hr)
    repeat' (first | (first | ((with_reducible apply sw_draw (id := 7) 35 [(0, true), (1, true), (2, true), (3, true), (4, true), (5, true), (6, true), (7, true), (8, true), (9, true), (10, true), (11, true), (12, true), (13, false), (14, true), (15, true), (16, true), (17, true), (18, true), (19, true), (20, true), (21, true), (22, true), (23, true), (24, true), (25, true), (26, true), (27, true), (28, true), (29, true), (30, false), (31, false), (32, true), (33, true), (34, true)] [] []); kernel_rfl; (exact atks); kernel_rfl; intro r' hl')) | (rw [he]) | (rw [hx]) | (refine acl Tryz.func68 ?_; refine acr (hkb _ hl'.1) ?_; rintro v' H' ⟨rfl, rfl⟩; all_goals refine apl ?_) | (exfalso; first | contradiction | omega) | refine aw0 ?_ | (refine ap2 ?_ ?_ <;> try intro h) | refine aw1 ?_ | (refine abx ?_; intro bb) | (refine abz ?_; intro bz) | (refine ahv ?_; intro v' hv') | (refine aac ?_; intro ac cc) | refine aw2 ?_ | (refine ap4 ?_ ?_ <;> try intro h) | apply True.intro)
    all_goals exact ⟨_, by omega, k + 1, rfl, by omega, ⟨_, atks⟩, asls⟩
  · by_cases hk2 : k < Z.length + 12
    · obtain ⟨j, rfl⟩ : ∃ j, k = Z.length + j := ⟨k - Z.length, by omega⟩
      have he : (Z.map lpV ++ marksPo 12).getD (Z.length + j) default = markPo 1 j := by
        rw [List.getD_eq_getElem?_getD, List.getElem?_append_right (by rw [List.length_map]; omega)]
        simp [marksPo, show j < 12 by omega]
      have hs := fun r' => (samePosting_any r' (markPo 1 j) (markPo 1 j) (els_nil r') (els_nil r')).mono (R' := fun u H => u = .bool true ∧ H = []) (fun u H ⟨e1, e2⟩ => ⟨e1.trans (congrArg Value.bool (decide_eq_true rfl)), e2⟩)
      repeat' (first | (first | ((with_reducible apply sw_draw (id := 7) 35 [(0, true), (1, true), (2, true), (3, true), (4, true), (5, true), (6, true), (7, true), (8, true), (9, true), (10, true), (11, true), (12, true), (13, false), (14, true), (15, true), (16, true), (17, true), (18, true), (19, true), (20, true), (21, true), (22, true), (23, true), (24, true), (25, true), (26, true), (27, true), (28, true), (29, true), (30, false), (31, false), (32, true), (33, true), (34, true)] [] []); kernel_rfl; (exact atks); kernel_rfl; intro r' hl')) | (rw [he]) | (refine acl Tryz.func57 ?_; refine acr (by rw [show (((Z.length + j : Nat) : Int) - (xs.length : Nat)) = ((j : Nat) : Int) by omega]; exact markPosting_any _ 1 j) ?_; rintro v' H' ⟨rfl, rfl⟩; all_goals refine apl ?_) | (refine acl Tryz.func38 ?_; refine acr (hs _) ?_; rintro v' H' ⟨rfl, rfl⟩; all_goals refine apl ?_) | (exfalso; first | contradiction | omega) | refine aw0 ?_ | (refine ap2 ?_ ?_ <;> try intro h) | refine aw1 ?_ | (refine abx ?_; intro bb) | (refine abz ?_; intro bz) | (refine ahv ?_; intro v' hv') | (refine aac ?_; intro ac cc) | refine aw2 ?_ | (refine ap4 ?_ ?_ <;> try intro h) | apply True.intro)
      all_goals exact ⟨_, by omega, Z.length + j + 1, rfl, by omega, ⟨_, atks⟩, asls⟩
    · obtain rfl : k = Z.length + 12 := by omega
      repeat' (first | (exfalso; first | contradiction | omega) | refine aw0 ?_ | (refine ap2 ?_ ?_ <;> try intro h) | refine aw1 ?_ | (refine abx ?_; intro bb) | (refine abz ?_; intro bz) | (refine ahv ?_; intro v' hv') | (refine aac ?_; intro ac cc) | refine aw2 ?_ | (refine ap4 ?_ ?_ <;> try intro h) | apply True.intro)
      ((with_reducible apply fp_ret); exact res_1 rfl rfl)
      exact HR.out _ _ _ [] Takes.all ⟨rfl, rfl⟩
end Go.Proofs.YtkbajhiahpkgiaaGreat
