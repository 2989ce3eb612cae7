
/- mudlarkkit.LentRows, KeptRows: their contracts. -/
import Derived.Test.YtkbajhiahpkgiaaGreatKw
import Derived.Test.YtkbajhiahpkgiaaGreatFb
import Derived.Test.YtkbajhiahpkgiaaGreatGr
import Derived.Test.YtkbajhiahpkgiaaGreatPf
namespace Go.Proofs.YtkbajhiahpkgiaaGreat
open Go.RowKit Sx

/-- A row that was lent, with the marks behind it. -/
def wideC (x : RowV) : Ch := RowC 5 1 (.slice x.a (x.l.length + 12) x.c) (x.l.length + 12) (u8s (x.l ++ marksL 12))
def bytV (x : RowV) : BytV := ⟨x.val, x.l⟩
theorem wide_all {r : Hp} : ∀ {Z : List RowV} {g : Hp}, all (Z.map wideC) g → sub g r → ∀ z ∈ Z, Wide r z.val z.l
  | [], _, _, _, _, hz => by cases hz
  | y :: Z, g, h, hs, z, hz => by
    obtain ⟨g1, g2, dd, rfl, h1, h2⟩ := h
    rcases List.mem_cons.1 hz with rfl | hz
    · exact Wide.of h1 (fun b o e => hs b o (un_left e))
    · exact wide_all h2 (fun b o e => hs b o (un_right dd e)) z hz
theorem wide_snoc {Z : List RowV} {x : RowV} (h : Hp) (e : all [all (Z.map wideC), wideC x] h) : all ((Z ++ [x]).map wideC) h := by
  have h1 := all_perm (List.Perm.swap _ _ _) e
  have h2 := (all_fold (L1 := [wideC x]) (L2 := Z.map wideC)).1 h1
  refine all_perm ?_ h2
  rw [List.map_append]
  exact List.perm_append_comm (l₁ := [_])
set_option maxRecDepth 10000 in
set_option maxHeartbeats 2000000 in
theorem lentRows_any (r : Hp) (v : Value) (bv : List BytV) (hv : Rowz r v bv) (hn : bv.length ≤ 1000000) (hl : ∀ x ∈ bv, x.data.length ≤ 1000000) : Tri Tryz.prog r 9 [v] [] fun w H => ∃ a c, ∃ Z : List RowV, Z.map (·.l) = bv.map (·.data) ∧ w = .slice a bv.length c ∧ H = [RowC 33 1 w bv.length (Z.flatMap encS), all (Z.map wideC)] := by
  refine Tri.free2 fun R HR => ?_
  have hve := hv.1
  refine fn_of_sw Tryz.func9 rfl _ rfl ?_; refine aen Tryz.ntmps9 ?_
  refine sw_put (A := RowC 33 1 (.slice none 0 0) 0 []) (RowC.nil _ _) ?_
  refine sw_put (A := all (([] : List RowV).map wideC)) rfl ?_
  repeat' (first | refine aw0m ?_ | (refine ap2 ?_ ?_ <;> try intro h) | refine aw1m ?_ | (refine abx ?_; intro bb) | (refine abz ?_; intro bz) | (refine ahv ?_; intro v' hv') | (refine aac ?_; intro ac cc) | refine aw2 ?_ | (refine ap4 ?_ ?_ <;> try intro h) | apply True.intro)
  refine sw_loop (fun gm t H' => ∃ (k : Nat) (Z : List RowV) (a : Option Addr) (c : Nat), gm = bv.length + 1 - k ∧ (k ≤ bv.length) ∧ (Z.map (·.l) = (bv.take k).map (·.data)) ∧ (∃ G, Takes [RowC 33 1 (.slice a k c) k (Z.flatMap encS), all (Z.map wideC)] H' G) ∧ Sls t 20 [(0, v), (3, .slice a k c), (4, .int .i64 k)]) _ ⟨0, [], none, 0, rfl, Nat.zero_le _, rfl, ⟨_, by (exact atks)⟩, asls⟩ ?_
  rintro gm t H' ⟨k, Z, a, c, rfl, hk, hZ, ⟨G, hp⟩, hs'⟩
  revert t; refine sls_all ?_; iterate 17 intro uu'
  refine sw_takeG hp ?_; clear hp
  by_cases hlt : k < bv.length
  · have hm := getD_mem hlt
    have hb := hv.2 _ hm
    have hbl := hl _ hm
    have htk : (bv.take (k + 1)).map (·.data) = (bv.take k).map (·.data) ++ [(bv.getD k default).data] := by
      rw [List.take_succ_eq_append_getElem hlt, List.map_append, List.getD_eq_getElem?_getD, List.getElem?_eq_getElem hlt]; rfl
    have hlb := lentBytes_any r _ _ hb hbl
    generalize (bv.getD k default).data = d at htk hlb
    repeat' (first | (refine acl Tryz.func15 ?_; refine acr (hlb) ?_; rintro v' H' ⟨a1, c1, rfl, rfl⟩; all_goals refine apl ?_) | (first | ((with_reducible apply kx_bs1); exact ty_el; exact ty_inf; rfl; rfl; rfl; intro bz; (refine apk ?_)) | ((with_reducible apply kx_bsN); exact ty_el; exact ty_inf; rfl; rfl; rfl; intro bz; (refine apk ?_))) | (first | ((with_reducible apply kx_append1); exact ty_el; exact ty_inf; rfl; rfl; rfl; (exact atk); (exact atk); rfl; omega; intro a' c'; (refine apk ?_)) | ((with_reducible apply kx_appendN); exact ty_el; exact ty_inf; rfl; rfl; rfl; rfl; (exact atk); (exact atk); rfl; rfl; omega; intro a' c'; (refine apk ?_))) | ((with_reducible apply sw_joinA (c := .region 4 _ _) (As := [all (Z.map wideC), RowC 5 1 (.slice a1 (d.length + 12) c1) (d.length + 12) (u8s (d ++ marksL 12))]) (D := all ((Z ++ [(⟨a1, c1, d⟩ : RowV)]).map wideC))); (with_reducible (exact atks)); (intro h' e; exact wide_snoc (x := (⟨a1, c1, d⟩ : RowV)) h' e)) | (exfalso; first | contradiction | omega) | refine aw0 ?_ | (refine ap2 ?_ ?_ <;> try intro h) | refine aw1 ?_ | (refine abx ?_; intro bb) | (refine abz ?_; intro bz) | (refine ahv ?_; intro v' hv') | (refine aac ?_; intro ac cc) | refine aw2 ?_ | (refine ap4 ?_ ?_ <;> try intro h) | apply True.intro)
    exact ⟨_, by omega, k + 1, Z ++ [(⟨a1, c1, d⟩ : RowV)], a', c', rfl, by omega, by rw [htk, List.map_append, hZ]; rfl, ⟨_, by rw [List.flatMap_append, show [(⟨a1, c1, d⟩ : RowV)].flatMap encS = [.slice a1 d.length c1] from rfl]; (exact atks)⟩, asls⟩
  · obtain rfl : k = bv.length := by omega
    rw [List.take_length] at hZ
    repeat' (first | (exfalso; first | contradiction | omega) | refine aw0 ?_ | (refine ap2 ?_ ?_ <;> try intro h) | refine aw1 ?_ | (refine abx ?_; intro bb) | (refine abz ?_; intro bz) | (refine ahv ?_; intro v' hv') | (refine aac ?_; intro ac cc) | refine aw2 ?_ | (refine ap4 ?_ ?_ <;> try intro h) | apply True.intro)
    ((with_reducible apply fp_ret); exact res_1 rfl rfl)
    exact HR.out _ _ _ [RowC 33 1 _ _ _, all (Z.map wideC)] (by (exact atks)) ⟨a, c, Z, hZ, rfl, rfl⟩
set_option maxRecDepth 10000 in
set_option maxHeartbeats 2000000 in
theorem keptRows_any (r : Hp) (v w : Value) (Z : List RowV) (bv : List BytV) (hv : Els r 1 encS v Z) (hw : Rowz r w bv) (hz : Z.map (·.l) = bv.map (·.data)) (hZ : ∀ z ∈ Z, Wide r z.val z.l) : Tri Tryz.prog r 13 [v, w] [] fun u H => u = .bool true ∧ H = [] := by
  refine Tri.free2 fun R HR => ?_
  have hwe := hw.1
  have hlz : Z.length = bv.length := by have h := congrArg List.length hz; rwa [List.length_map, List.length_map] at h
  have hbn : bv.length ≤ maxLen := hwe.2.2.1
  unfold maxLen at hbn
  refine fn_of_sw Tryz.func13 rfl _ rfl ?_; refine aen Tryz.ntmps13 ?_
  repeat' (first | (exfalso; first | contradiction | omega) | refine aw0 ?_ | (refine ap2 ?_ ?_ <;> try intro h) | refine aw1 ?_ | (refine abx ?_; intro bb) | (refine abz ?_; intro bz) | (refine ahv ?_; intro v' hv') | (refine aac ?_; intro ac cc) | refine aw2 ?_ | (refine ap4 ?_ ?_ <;> try intro h) | apply True.intro)
  refine sw_loop (fun gm t H' => ∃ k : Nat, gm = bv.length + 1 - k ∧ (k ≤ bv.length) ∧ (∃ G, Takes [] H' G) ∧ Sls t 27 [(0, v), (1, w), (5, .int .i64 k)]) _ ⟨0, rfl, Nat.zero_le _, ⟨_, by (exact atks)⟩, asls⟩ ?_
  rintro gm t H' ⟨k, rfl, hk, ⟨G, hp⟩, hs'⟩
  revert t; refine sls_all ?_; iterate 24 intro uu'
  refine sw_takeG hp ?_; clear hp
  by_cases hlt : k < bv.length
  · have hlt2 : k < Z.length := by omega
    have hb := hw.2 _ (getD_mem hlt)
    have hz2 := hZ _ (getD_mem hlt2)
    have he : (bv.getD k default).data = (Z.getD k default).l := by
      have h1 := congrArg (fun l => l[k]?) hz
      simp only [List.getElem?_map] at h1
      rw [List.getElem?_eq_getElem hlt, List.getElem?_eq_getElem hlt2] at h1
      rw [List.getD_eq_getElem?_getD, List.getD_eq_getElem?_getD, List.getElem?_eq_getElem hlt, List.getElem?_eq_getElem hlt2]
      simpa using h1.symm
    rw [he] at hb
    have hkb := fun r' (hr : sub r r') => keptW_any r' (.slice (Z.getD k default).a (Z.getD k default).l.length (Z.getD k default).c) (bv.getD k default).val (Z.getD k default).l (hz2.mono hr) (hb.mono hr)
    repeat' (first | (first | ((with_reducible apply sw_draw (id := 6) 10 [(0, true), (1, true), (2, true), (3, true), (4, true), (5, true), (6, true), (7, true), (8, false), (9, true)] [] []); kernel_rfl; (exact atks); kernel_rfl; intro r' hl')) | (refine acl Tryz.func21 ?_; refine acr (hkb _ hl'.1) ?_; rintro v' H' ⟨rfl, rfl⟩; all_goals refine apl ?_) | (exfalso; first | contradiction | omega) | refine aw0 ?_ | (refine ap2 ?_ ?_ <;> try intro h) | refine aw1 ?_ | (refine abx ?_; intro bb) | (refine abz ?_; intro bz) | (refine ahv ?_; intro v' hv') | (refine aac ?_; intro ac cc) | refine aw2 ?_ | (refine ap4 ?_ ?_ <;> try intro h) | apply True.intro)
    all_goals exact ⟨_, by omega, k + 1, rfl, by omega, ⟨_, atks⟩, asls⟩
  · obtain rfl : k = bv.length := by omega
    repeat' (first | (exfalso; first | contradiction | omega) | refine aw0 ?_ | (refine ap2 ?_ ?_ <;> try intro h) | refine aw1 ?_ | (refine abx ?_; intro bb) | (refine abz ?_; intro bz) | (refine ahv ?_; intro v' hv') | (refine aac ?_; intro ac cc) | refine aw2 ?_ | (refine ap4 ?_ ?_ <;> try intro h) | apply True.intro)
    ((with_reducible apply fp_ret); exact res_1 rfl rfl)
    exact HR.out _ _ _ [] Takes.all ⟨rfl, rfl⟩
end Go.Proofs.YtkbajhiahpkgiaaGreat
