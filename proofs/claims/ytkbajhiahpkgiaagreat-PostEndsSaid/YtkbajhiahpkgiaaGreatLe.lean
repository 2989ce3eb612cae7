
/- mudlarklaw19.places, PostEnds: their contracts. -/
import Derived.Test.YtkbajhiahpkgiaaGreatMr
import Derived.Test.YtkbajhiahpkgiaaGreatAx
import Derived.Test.YtkbajhiahpkgiaaGreatAo
import Derived.Test.YtkbajhiahpkgiaaGreatQi
import Derived.Test.YtkbajhiahpkgiaaGreatFg
import Derived.Test.YtkbajhiahpkgiaaGreatKw
import Derived.Test.YtkbajhiahpkgiaaGreatLo
import Derived.Test.YtkbajhiahpkgiaaGreatDo
import Derived.Test.YtkbajhiahpkgiaaGreatQf
import Derived.Test.YtkbajhiahpkgiaaGreatAb
import Derived.Test.YtkbajhiahpkgiaaGreatPz
import Derived.Test.YtkbajhiahpkgiaaGreatPn
namespace Go.Proofs.YtkbajhiahpkgiaaGreat
open Go.RowKit Sx

theorem apart2_any (r : Hp) (v : Value) (a b : Option Addr) (c d : Nat) (l m : List UInt8) (hv : Sl r 1 v 2 [.slice a l.length c, .slice b m.length d]) (hl : l.length ≤ 100000000) (hm : m.length ≤ 100000000) : Tri Tryz.prog r 33 [v] [U8R (.slice a l.length c) l, U8R (.slice b m.length d) m] fun w H => w = .bool true ∧ H = [] :=
  apartBytes_any r v [⟨a, c, l⟩, ⟨b, d, m⟩] ⟨fun _ => rfl, hv⟩ (by simp) (fun x hx => by
    rcases List.mem_cons.1 hx with rfl | hx
    · exact hl
    · obtain rfl := List.mem_singleton.1 hx; exact hm)
theorem lent_posts {r : Hp} {a : Option Addr} {c : Nat} {Z : List LpV} {g : Hp} (h : RowC 53 2 (.slice a (Z.length + 12) c) (Z.length + 12) ((Z.map lpV ++ marksPo 12).flatMap encPo) g) (hs : sub g r) (hZ : ∀ z ∈ Z, WideP r z) : Z.length + 12 ≤ c ∧ Els r 2 encPo (.slice a (Z.length + 12) c) (Z.map lpV ++ marksPo 12) ∧ Posts r (.slice a Z.length c) (Z.map lpV) := by
  have h1 := h.sl hs
  refine ⟨(RowC.cap h).1, ⟨fun _ => rfl, by rw [List.length_append, marksPo_len, List.length_map]; exact h1⟩, ⟨fun _ => rfl, ?_⟩, fun x hx => ?_⟩
  · have h2 := Sl.narrow h1 (m := Z.length) (by omega)
    rw [List.flatMap_append, show Z.length * 2 = ((Z.map lpV).flatMap encPo).length by rw [flat_len (sz := 2) (fun _ => rfl), List.length_map], List.take_left] at h2
    rw [List.length_map]
    exact h2
  · obtain ⟨z, hz, rfl⟩ := List.mem_map.1 hx
    exact (hZ z hz).els
set_option maxRecDepth 10000 in
set_option maxHeartbeats 8000000 in
theorem postPuts_any (r : Hp) (v : Value) (xs : List PostV) (hv : Posts r v xs) (hl : ∀ x ∈ xs, x.gram.length ≤ 140737488351232 ∧ x.pl.length ≤ 140737488351232) : Tri Tryz.prog r 5 [v] [] fun w H => w = .bool true ∧ H = [] := by
  refine Tri.free2 fun R HR => ?_
  have hpo := postingsOf_any r v xs 1500 hv (fun x hx => by have := hl x hx; omega) (by omega)
  by_cases hs : sizeP xs ≤ 1500
  · obtain ⟨hxn, hxp⟩ := sizeP_ge xs
    have hlp := lentPostings_any r v xs hv (by omega) (fun x hx => by have := (hxp x hx).2; omega)
    refine fn_of_sw Tryz.func5 rfl _ rfl ?_; refine aen Tryz.ntmps5 ?_
    repeat' (first | (refine acl Tryz.func22 ?_; refine acr (hpo) ?_; rintro v' H' ⟨z, rfl, hz, rfl⟩; all_goals refine apl ?_) | (refine acl Tryz.func23 ?_; refine acr (hlp) ?_; rintro v' H' ⟨a1, c1, Z, hZ, rfl, rfl⟩; all_goals refine apl ?_) | ((with_reducible apply sw_freezeT (A := RowC 53 2 (.slice a1 (xs.length + 12) c1) (xs.length + 12) ((Z.map lpV ++ marksPo 12).flatMap encPo))); (with_reducible (exact atk)); intro r1 g1 hr1 hg1 hA1) | ((with_reducible apply sw_freezeT (A := all (Z.map wideP))); (with_reducible (exact atk)); intro r2 g2 hr2 hg2 hA2) | (exfalso; first | contradiction | omega) | refine aw0 ?_ | (refine ap2 ?_ ?_ <;> try intro h) | refine aw1 ?_ | (refine abx ?_; intro bb) | (refine abz ?_; intro bz) | (refine ahv ?_; intro v' hv') | (refine aac ?_; intro ac cc) | refine aw2 ?_ | (refine ap4 ?_ ?_ <;> try intro h) | apply True.intro)
    have hWz := widep_all hA2 hg2
    have hZl : Z.length = xs.length := by have h := congrArg List.length hZ; rwa [List.length_map, List.length_map, List.length_map] at h
    rw [← hZl] at hA1
    obtain ⟨hc, hE, hP⟩ := lent_posts hA1 (fun b o e => hr2 b o (hg1 b o e)) hWz
    have hv2 : Posts r2 v xs := (hv.mono hr1).mono hr2
    have hyl : (Z.map lpV).length = xs.length := by rw [List.length_map, hZl]
    have hyp : ∀ y ∈ Z.map lpV, y.pl.length ≤ 10000 := fun y hy => by
      have h1 : unP y ∈ xs.map unP := by rw [← hZ]; exact List.mem_map_of_mem hy
      obtain ⟨x, hx, e⟩ := List.mem_map.1 h1
      have h2 := (hxp x hx).2
      have h3 : y.pl = x.pl := (congrArg Prod.snd e).symm
      rw [h3]; omega
    have hkp := keptPostings_any r2 a1 c1 v Z xs hc hE hWz hv2 hZ
    have hput := put_post_any r2 (.slice a1 Z.length c1) (Z.map lpV) hP hyp (by omega)
    have hrput := rput19_any r2 v xs hv2 (fun x hx => by have := (hxp x hx).2; omega) (by omega)
    have hrt := right_post_any r2 (.slice a1 Z.length c1) (Z.map lpV) hP
    have hrrt := rright_any r2 v xs hv2
    have hu : ∀ i, i < xs.length → unP ((Z.map lpV).getD i default) = unP (xs.getD i default) := fun i hi => by
      have h1 := congrArg (fun l => l[i]?) hZ
      simp only [List.getElem?_map] at h1
      rw [List.getD_eq_getElem?_getD, List.getD_eq_getElem?_getD, List.getElem?_map, List.getElem?_eq_getElem hi, List.getElem?_eq_getElem (show i < Z.length by omega)]
      rw [List.getElem?_eq_getElem hi, List.getElem?_eq_getElem (show i < Z.length by omega)] at h1
      simpa using h1
    rw [hZ] at hput hrt
    obtain ⟨B, e, hBe⟩ : ∃ B e, putE (xs.map unP) = (B, e) := ⟨_, _, rfl⟩
    have hBl : B.length ≤ 50000 := by
      unfold putE at hBe
      split at hBe
      · rename_i hok
        obtain ⟨rfl, _⟩ := Prod.mk.inj hBe
        have h1 := putB_24 (xs.map unP) (fun x hx => ⟨postsOk_mem hok x hx, by
          obtain ⟨y, hy, rfl⟩ := List.mem_map.1 hx
          have := (hxp y hy).2
          show y.pl.length ≤ 10000
          omega⟩)
        rw [sizeQ_un] at h1
        have h2 := septs_len6 (n := (xs.map unP).length) (by rw [List.length_map]; unfold maxNum; omega)
        unfold putB; rw [List.length_append]; omega
      · obtain ⟨rfl, _⟩ := Prod.mk.inj hBe
        exact Nat.zero_le _
    rw [hBe] at hput hrput
    dsimp only at hput hrput
    generalize postsOk [] (xs.map unP) = ok at hrt hrrt
    have hys : Els r2 2 encPo (.slice a1 Z.length c1) (Z.map lpV) := hP.1
    have hxs : Els r2 2 encPo v xs := hv2.1
    have hPm := hP.2
    have hvm := hv2.2
    generalize Z.map lpV = ys at hput hrt hu hys hPm hyl hyp
    rw [hZl] at *
    have hsm := fun r v w hv hw => sameBytes_any r v w B B hv hw
    simp only [decide_true] at hsm
    have hneq : (!(ok == ok)) = false := by simp
    repeat' (first | (refine acl Tryz.func24 ?_; refine acr (hput) ?_; rintro v' H' ⟨a2, c2, rfl, rfl⟩; all_goals refine apl ?_) | (exfalso; first | contradiction | omega) | refine aw0 ?_ | (refine ap2 ?_ ?_ <;> try intro h) | refine aw1 ?_ | (refine abx ?_; intro bb) | (refine abz ?_; intro bz) | (refine ahv ?_; intro v' hv') | (refine aac ?_; intro ac cc) | refine aw2 ?_ | (refine ap4 ?_ ?_ <;> try intro h) | apply True.intro)
    repeat' (first | (refine acl Tryz.func25 ?_; refine acr (hrput) ?_; rintro v' H' ⟨a3, c3, rfl, rfl⟩; all_goals refine apl ?_) | (exfalso; first | contradiction | omega) | refine aw0 ?_ | (refine ap2 ?_ ?_ <;> try intro h) | refine aw1 ?_ | (refine abx ?_; intro bb) | (refine abz ?_; intro bz) | (refine ahv ?_; intro v' hv') | (refine aac ?_; intro ac cc) | refine aw2 ?_ | (refine ap4 ?_ ?_ <;> try intro h) | apply True.intro)
    repeat' (first | (rw [hneq]) | (refine acl Tryz.func24 ?_; refine acr (hput) ?_; rintro v' H' ⟨a4, c4, rfl, rfl⟩; all_goals refine apl ?_) | (refine acl Tryz.func26 ?_; refine acr (hrt) ?_; rintro v' H' ⟨rfl, rfl⟩; all_goals refine apl ?_) | (refine acl Tryz.func27 ?_; refine acr (hrrt) ?_; rintro v' H' ⟨rfl, rfl⟩; all_goals refine apl ?_) | ((with_reducible apply kx_lendC (A := U8R (.slice a2 B.length c2) B)); (exact atk); intro r5 g5 hr5 hg5 hA5; (with_reducible apply kx_lendC (A := U8R (.slice a3 B.length c3) B)); (exact atk); intro r6 g6 hr6 hg6 hA6; (refine acl Tryz.func28 ?_; refine acr (hsm r6 _ _ ((hA5.sl hg5).mono hr6) (hA6.sl hg6)) ?_; rintro v' H' ⟨rfl, rfl⟩; all_goals refine apl ?_)) | (exfalso; first | contradiction | omega) | refine aw0 ?_ | (refine ap2 ?_ ?_ <;> try intro h) | refine aw1 ?_ | (refine abx ?_; intro bb) | (refine abz ?_; intro bz) | (refine ahv ?_; intro v' hv') | (refine aac ?_; intro ac cc) | refine aw2 ?_ | (refine ap4 ?_ ?_ <;> try intro h) | apply True.intro)
    refine sw_loop (fun gm t H' => ∃ k : Nat, gm = xs.length + 1 - k ∧ (k ≤ xs.length) ∧ (∃ G, Takes [U8R (.slice a4 B.length c4) B, U8R (.slice a2 B.length c2) B] H' G) ∧ Sls t 85 [(0, v), (3, .slice a1 xs.length c1), (4, .slice a2 B.length c2), (8, .slice a4 B.length c4), (10, .int .i64 k)]) _ ⟨0, rfl, Nat.zero_le _, ⟨_, by (exact atks)⟩, asls⟩ ?_
    rintro gm t H' ⟨k, rfl, hk, ⟨G, hp⟩, hs'⟩
    revert t; refine sls_all ?_; iterate 80 intro uu'
    refine sw_takeG hp ?_; clear hp
    by_cases hlt : k < xs.length
    · have hpl : (ys.getD k default).pl = (xs.getD k default).pl := congrArg Prod.snd (hu k hlt)
      have hx1 := hvm _ (getD_mem hlt)
      have hy1 := hPm _ (getD_mem (show k < ys.length by omega))
      rw [hpl] at hy1
      have hlen : (xs.getD k default).pl.length ≤ 10000 := by have := (hxp _ (getD_mem hlt)).2; omega
      have hd1 := fun r' (hr : sub r2 r') => docs_post_any r' (ys.getD k default).val (xs.getD k default).pl (hy1.mono hr) (by omega)
      have hd2 := fun r' (hr : sub r2 r') => rdocs_any r' (xs.getD k default).val (xs.getD k default).pl (hx1.mono hr) (by omega)
      generalize docsK (xs.getD k default).pl (xs.getD k default).pl.length = D at hd1 hd2
      have hsi := fun r v w hv hw => sameInts_any r v w D D hv hw
      simp only [decide_true] at hsi
      repeat' (first | (first | ((with_reducible apply sw_draw (id := 12) 14 [(0, true), (1, true), (2, true), (3, true), (4, true), (6, true), (7, true), (8, true), (9, true), (10, true), (5, false), (11, false), (12, false), (13, true)] [] []); kernel_rfl; (exact atks); kernel_rfl; intro r' hl')) | (refine acl Tryz.func30 ?_; refine acr (hd1 _ hl'.1) ?_; rintro v' H' ⟨a7, c7, rfl, rfl⟩; all_goals refine apl ?_) | (refine acl Tryz.func31 ?_; refine acr (hd2 _ hl'.1) ?_; rintro v' H' ⟨a8, c8, rfl, rfl⟩; all_goals refine apl ?_) | ((with_reducible apply kx_lendC (A := RowC 3 1 (.slice a7 D.length c7) D.length (D.flatMap encI))); (exact atk); intro r5 g5 hr5 hg5 hA5; (with_reducible apply kx_lendC (A := RowC 3 1 (.slice a8 D.length c8) D.length (D.flatMap encI))); (exact atk); intro r6 g6 hr6 hg6 hA6; (refine acl Tryz.func29 ?_; refine acr (hsi r6 _ _ ⟨fun _ => rfl, (hA5.sl hg5).mono hr6⟩ ⟨fun _ => rfl, hA6.sl hg6⟩) ?_; rintro v' H' ⟨rfl, rfl⟩; all_goals refine apl ?_)) | (exfalso; first | contradiction | omega) | refine aw0 ?_ | (refine ap2 ?_ ?_ <;> try intro h) | refine aw1 ?_ | (refine abx ?_; intro bb) | (refine abz ?_; intro bz) | (refine ahv ?_; intro v' hv') | (refine aac ?_; intro ac cc) | refine aw2 ?_ | (refine ap4 ?_ ?_ <;> try intro h) | apply True.intro)
      all_goals exact ⟨_, by omega, k + 1, rfl, by omega, ⟨_, atks⟩, asls⟩
    · obtain rfl : k = xs.length := by omega
      repeat' (first | (refine acl Tryz.func32 ?_; refine acr (hkp) ?_; rintro v' H' ⟨rfl, rfl⟩; all_goals refine apl ?_) | ((with_reducible apply kx_lend [(bz, .cells [.slice a2 B.length c2, .slice a4 B.length c4].toArray 33 (0, 0))]); (exact atks); intro r' hl'; refine acl Tryz.func33 ?_; refine acr (apart2_any _ _ a2 a4 c2 c4 B B (Sl.lit (n := 2) (Lent.h1 hl') rfl (by simp [maxLen])) (by omega) (by omega)) ?_; rintro v' H' ⟨rfl, rfl⟩; all_goals refine apm ?_) | (refine acl Tryz.func8 ?_; refine acr (awake19_any _) ?_; rintro v' H' ⟨rfl, rfl⟩; all_goals refine apl ?_) | (exfalso; first | contradiction | omega) | refine aw0 ?_ | (refine ap2 ?_ ?_ <;> try intro h) | refine aw1 ?_ | (refine abx ?_; intro bb) | (refine abz ?_; intro bz) | (refine ahv ?_; intro v' hv') | (refine aac ?_; intro ac cc) | refine aw2 ?_ | (refine ap4 ?_ ?_ <;> try intro h) | apply True.intro)
      ((with_reducible apply fp_ret); exact res_1 rfl rfl)
      exact HR.out _ _ _ [] Takes.all ⟨rfl, rfl⟩
  · refine fn_of_sw Tryz.func5 rfl _ rfl ?_; refine aen Tryz.ntmps5 ?_
    repeat' (first | (refine acl Tryz.func8 ?_; refine acr (awake19_any _) ?_; rintro v' H' ⟨rfl, rfl⟩; all_goals refine apl ?_) | (refine acl Tryz.func22 ?_; refine acr (hpo) ?_; rintro v' H' ⟨z, rfl, hz, rfl⟩; all_goals refine apl ?_) | (exfalso; first | contradiction | omega) | refine aw0 ?_ | (refine ap2 ?_ ?_ <;> try intro h) | refine aw1 ?_ | (refine abx ?_; intro bb) | (refine abz ?_; intro bz) | (refine ahv ?_; intro v' hv') | (refine aac ?_; intro ac cc) | refine aw2 ?_ | (refine ap4 ?_ ?_ <;> try intro h) | apply True.intro)
    all_goals (((with_reducible apply fp_ret); exact res_1 rfl rfl); exact HR.out _ _ _ [] Takes.all ⟨rfl, rfl⟩)
end Go.Proofs.YtkbajhiahpkgiaaGreat

namespace Go.Proofs.YtkbajhiahpkgiaaGreat
open Go.RowKit Sx

theorem getP_most {b : List UInt8} (h : b.length ≤ 1500) : ((getP b).getD []).length ≤ 1500 ∧ (∀ x ∈ (getP b).getD [], x.2.length ≤ 1500) := by
  cases hp : getP b with
  | none => exact ⟨Nat.zero_le _, fun x hx => by cases hx⟩
  | some ps =>
    obtain ⟨h1, h2⟩ := getP_small hp
    exact ⟨by show ps.length ≤ _; omega, fun x hx => by have := h2 x hx; omega⟩
theorem sizeQ_most : ∀ (ps : List PostP) (m : Nat), (∀ x ∈ ps, x.1.length + x.2.length ≤ m) → sizeQ ps ≤ ps.length * (m + 1)
  | [], _, _ => Nat.zero_le _
  | x :: ps, m, h => by
    have ih := sizeQ_most ps m fun y hy => h y (List.mem_cons_of_mem _ hy)
    have h1 := h x List.mem_cons_self
    unfold sizeQ at ih ⊢
    rw [List.map_cons, List.sum_cons, List.length_cons, Nat.succ_mul]
    omega
theorem getP_sizeQ {b : List UInt8} (h : b.length ≤ 1500) : sizeQ ((getP b).getD []) ≤ 10000000 := by
  cases hp : getP b with
  | none => exact Nat.zero_le _
  | some ps =>
    obtain ⟨h1, h2⟩ := getP_small hp
    have hok := (getP_inv hp).2
    have h3 := sizeQ_most ps 1503 fun x hx => by
      have h4 := postsOk_mem hok x hx
      have h5 := h2 x hx
      unfold postOk at h4
      simp only [Bool.and_eq_true, decide_eq_true_eq] at h4
      omega
    have h6 : ps.length * (1503 + 1) ≤ 1500 * (1503 + 1) := Nat.mul_le_mul_right _ (by omega)
    show sizeQ ps ≤ _
    omega
set_option maxRecDepth 10000 in
set_option maxHeartbeats 8000000 in
theorem postGets_any (r : Hp) (v : Value) (b gr : List UInt8) (d : Int) (hv : U8S r v b) (hl : b.length ≤ 140737488351232) : Tri Tryz.prog r 4 [v, .string (bs gr), .int .i64 d] [] fun w H => w = .bool true ∧ H = [] := by
  refine Tri.free2 fun R HR => ?_
  by_cases hb : b.length ≤ 1500
  · obtain ⟨hp1, hp2⟩ := getP_most hb
    have hlb := lentBytes_any r v b hv (by omega)
    refine fn_of_sw Tryz.func4 rfl _ rfl ?_; refine aen Tryz.ntmps4 ?_
    repeat' (first | (refine acl Tryz.func15 ?_; refine acr (hlb) ?_; rintro v' H' ⟨a1, c1, rfl, rfl⟩; all_goals refine apl ?_) | ((with_reducible apply sw_freezeT (A := RowC 5 1 (.slice a1 (b.length + 12) c1) (b.length + 12) (u8s (b ++ marksL 12)))); (with_reducible (exact atk)); intro r1 g1 hr1 hg1 hA1) | (exfalso; first | contradiction | omega) | refine aw0 ?_ | (refine ap2 ?_ ?_ <;> try intro h) | refine aw1 ?_ | (refine abx ?_; intro bb) | (refine abz ?_; intro bz) | (refine ahv ?_; intro v' hv') | (refine aac ?_; intro ac cc) | refine aw2 ?_ | (refine ap4 ?_ ?_ <;> try intro h) | apply True.intro)
    have hw1 := Wide.of hA1 hg1
    have hkb := keptW_any r1 _ v b hw1 (hv.mono hr1)
    have hg1' := fun r' (hr : sub r1 r') => get_post_any r' _ b (hw1.sl.mono hr) (by omega)
    have hg2' := fun r' (hr : sub r1 r') => rget19_any r' v b ((hv.mono hr1).mono hr) (by omega)
    have hf1' := fun r' (hr : sub r1 r') => from_post_any r' _ b gr d (hw1.sl.mono hr) (by omega)
    have hf2' := fun r' (hr : sub r1 r') => rfrom_any r' v gr d _ _ (hg2' r' hr) (getP_sizeQ hb)
    generalize (getP b).getD [] = ps at hp1 hp2 hg1' hg2' hf1' hf2'
    generalize (if (getP b).isSome = true then (0 : Int) else 9) = e at hg1' hg2' hf1' hf2'
    generalize fromP ps gr d = W at hf1' hf2'
    repeat' (first | (refine acl Tryz.func16 ?_; refine acr (hg1' r1 (fun _ _ h => h)) ?_; rintro v' H' ⟨a2, c2, rfl, rfl⟩; all_goals refine apl ?_) | ((with_reducible apply sw_open (A := PostC 53 56 (.slice a2 ps.length c2) ps) (ι := List PZ) (B := fun Z => [PZC 53 56 (.slice a2 ps.length c2) Z]) (φ := fun Z => Z.map (·.1) = ps)); (with_reducible (exact atk)); (exact fun h ⟨Z, h1, h2⟩ => ⟨Z, h1, all_one.2 h2⟩); (rintro Z2 hZ2); (simp only [List.nil_append, List.cons_append])) | (exfalso; first | contradiction | omega) | refine aw0 ?_ | (refine ap2 ?_ ?_ <;> try intro h) | refine aw1 ?_ | (refine abx ?_; intro bb) | (refine abz ?_; intro bz) | (refine ahv ?_; intro v' hv') | (refine aac ?_; intro ac cc) | refine aw2 ?_ | (refine ap4 ?_ ?_ <;> try intro h) | apply True.intro)
    repeat' (first | (refine acl Tryz.func17 ?_; refine acr (hg2' r1 (fun _ _ h => h)) ?_; rintro v' H' ⟨a3, c3, rfl, rfl⟩; all_goals refine apl ?_) | ((with_reducible apply sw_open (A := PostC 53 56 (.slice a3 ps.length c3) ps) (ι := List PZ) (B := fun Z => [PZC 53 56 (.slice a3 ps.length c3) Z]) (φ := fun Z => Z.map (·.1) = ps)); (with_reducible (exact atk)); (exact fun h ⟨Z, h1, h2⟩ => ⟨Z, h1, all_one.2 h2⟩); (rintro Z3 hZ3); (simp only [List.nil_append, List.cons_append])) | ((with_reducible apply sw_freezeT (A := PZC 53 56 (.slice a3 ps.length c3) Z3)); (with_reducible (exact atk)); intro r3 g3 hr3 hg3 hA3) | (exfalso; first | contradiction | omega) | refine aw0 ?_ | (refine ap2 ?_ ?_ <;> try intro h) | refine aw1 ?_ | (refine abx ?_; intro bb) | (refine abz ?_; intro bz) | (refine ahv ?_; intro v' hv') | (refine aac ?_; intro ac cc) | refine aw2 ?_ | (refine ap4 ?_ ?_ <;> try intro h) | apply True.intro)
    obtain ⟨hx3, hP3⟩ := pzc_posts hA3 hg3 (show Z3.length = ps.length by rw [← hZ3, List.length_map])
    rw [hZ3] at hx3
    repeat' (first | (refine acl Tryz.func16 ?_; refine acr (hg1' r3 hr3) ?_; rintro v' H' ⟨a4, c4, rfl, rfl⟩; all_goals refine apl ?_) | ((with_reducible apply sw_open (A := PostC 53 56 (.slice a4 ps.length c4) ps) (ι := List PZ) (B := fun Z => [PZC 53 56 (.slice a4 ps.length c4) Z]) (φ := fun Z => Z.map (·.1) = ps)); (with_reducible (exact atk)); (exact fun h ⟨Z, h1, h2⟩ => ⟨Z, h1, all_one.2 h2⟩); (rintro Z4 hZ4); (simp only [List.nil_append, List.cons_append])) | (refine acl Tryz.func18 ?_; refine acr (hf1' r3 hr3) ?_; rintro v' H' ⟨pv, A, rfl, rfl, hpv⟩; all_goals refine apl ?_) | ((with_reducible apply sw_freezeT (A := A)); (with_reducible (exact atk)); intro r4 g4 hr4 hg4 hA4; have hpe := hpv _ _ hA4 hg4; clear hpv) | (refine acl Tryz.func19 ?_; refine acr (hf2' r4 (fun b o h => hr4 b o (hr3 b o h))) ?_; rintro v' H' ⟨a5, c5, rfl, rfl⟩; all_goals refine apl ?_) | ((with_reducible apply sw_freezeT (A := RowC 56 2 (.slice a5 W.length c5) W.length (W.flatMap encPl))); (with_reducible (exact atk)); intro r5 g5 hr5 hg5 hA5) | (exfalso; first | contradiction | omega) | refine aw0 ?_ | (refine ap2 ?_ ?_ <;> try intro h) | refine aw1 ?_ | (refine abx ?_; intro bb) | (refine abz ?_; intro bz) | (refine ahv ?_; intro v' hv') | (refine aac ?_; intro ac cc) | refine aw2 ?_ | (refine ap4 ?_ ?_ <;> try intro h) | apply True.intro)
    have h35 : sub r3 r5 := fun b o h => hr5 b o (hr4 b o h)
    have h15 : sub r1 r5 := fun b o h => h35 b o (hr3 b o h)
    have hl2 : Z2.length = ps.length := by rw [← hZ2, List.length_map]
    have hl4 : Z4.length = ps.length := by rw [← hZ4, List.length_map]
    have hsp := fun rx gx (hs : sub r5 rx) (hA : PZC 53 56 (.slice a2 ps.length c2) Z2 gx) (hg : sub gx rx) => samePostings_any rx _ _ _ _ (pzc_posts hA hg hl2).2 ((hP3.mono h35).mono hs)
    rw [hx3, pvZ_un, hZ2] at hsp
    simp only [decide_true] at hsp
    have hsm := same19_any r5 pv (.slice a5 W.length c5) W W (hpe.mono hr5) ⟨fun _ => rfl, hA5.sl hg5⟩
    simp only [decide_true] at hsm
    have hkb5 := keptW_any r5 _ v b (hw1.mono h15) ((hv.mono hr1).mono h15)
    have hap := fun r v h => apartPostings_any r v a2 a4 c2 c4 Z2 Z4 h (by omega) (by omega) (fun z hz => by
      have h1 : z.1 ∈ ps := by
        rcases List.mem_append.1 hz with h | h
        · rw [← hZ2]; exact List.mem_map_of_mem h
        · rw [← hZ4]; exact List.mem_map_of_mem h
      have := hp2 _ h1
      omega)
    rw [hl2, hl4] at hap
    repeat' (first | ((with_reducible apply kx_lendC (A := PZC 53 56 (.slice a2 ps.length c2) Z2)); (exact atk); intro rx gx hrx hgx hAx; (refine acl Tryz.func11 ?_; refine acr (hsp rx gx hrx hAx hgx) ?_; rintro v' H' ⟨rfl, rfl⟩; all_goals refine apl ?_)) | (refine acl Tryz.func20 ?_; refine acr (hsm) ?_; rintro v' H' ⟨rfl, rfl⟩; all_goals refine apl ?_) | (refine acl Tryz.func21 ?_; refine acr (hkb5) ?_; rintro v' H' ⟨rfl, rfl⟩; all_goals refine apl ?_) | ((with_reducible apply kx_lend [(bz, .cells [.slice a2 ps.length c2, .slice a4 ps.length c4].toArray 26 (0, 0))]); (exact atks); intro r' hl'; refine acl Tryz.func14 ?_; refine acr (hap _ _ (Sl.lit (n := 2) (Lent.h1 hl') rfl (by simp [maxLen]))) ?_; rintro v' H' ⟨rfl, rfl⟩; all_goals refine apm ?_) | (refine acl Tryz.func8 ?_; refine acr (awake19_any _) ?_; rintro v' H' ⟨rfl, rfl⟩; all_goals refine apl ?_) | (exfalso; first | contradiction | omega) | refine aw0 ?_ | (refine ap2 ?_ ?_ <;> try intro h) | refine aw1 ?_ | (refine abx ?_; intro bb) | (refine abz ?_; intro bz) | (refine ahv ?_; intro v' hv') | (refine aac ?_; intro ac cc) | refine aw2 ?_ | (refine ap4 ?_ ?_ <;> try intro h) | apply True.intro)
    ((with_reducible apply fp_ret); exact res_1 rfl rfl)
    exact HR.out _ _ _ [] Takes.all ⟨rfl, rfl⟩
  · refine fn_of_sw Tryz.func4 rfl _ rfl ?_; refine aen Tryz.ntmps4 ?_
    repeat' (first | (refine acl Tryz.func8 ?_; refine acr (awake19_any _) ?_; rintro v' H' ⟨rfl, rfl⟩; all_goals refine apl ?_) | (exfalso; first | contradiction | omega) | refine aw0 ?_ | (refine ap2 ?_ ?_ <;> try intro h) | refine aw1 ?_ | (refine abx ?_; intro bb) | (refine abz ?_; intro bz) | (refine ahv ?_; intro v' hv') | (refine aac ?_; intro ac cc) | refine aw2 ?_ | (refine ap4 ?_ ?_ <;> try intro h) | apply True.intro)
    all_goals (((with_reducible apply fp_ret); exact res_1 rfl rfl); exact HR.out _ _ _ [] Takes.all ⟨rfl, rfl⟩)
end Go.Proofs.YtkbajhiahpkgiaaGreat

namespace Go.Proofs.YtkbajhiahpkgiaaGreat
open Go.RowKit Sx

theorem tot_rows (bv : List BytV) : tot (bv.map (·.data)) bv.length = sumR bv := by
  have h := tot_sum (bv.map (·.data)) bv.length (by rw [List.length_map]; exact Nat.le_refl _)
  rw [h, List.take_of_length_le (by rw [List.length_map]; exact Nat.le_refl _), List.map_map]
  rfl
theorem sumR_mem {bv : List BytV} {x : BytV} (h : x ∈ bv) : x.data.length ≤ sumR bv := by
  induction bv with
  | nil => cases h
  | cons y bv ih =>
    unfold sumR at ih ⊢
    rw [List.map_cons, List.sum_cons]
    rcases List.mem_cons.1 h with rfl | h
    · omega
    · have := ih h; omega
theorem same_post (r : Hp) {a b : Option Addr} {c d : Nat} {Z : List PZ} {ps : List PostP} (hZ : Z.map (·.1) = ps) {g k : Hp} (hA : PZD (.slice a ps.length c) Z g) (hg : sub g r) (hB : PostC 53 56 (.slice b ps.length d) ps k) (hk : sub k r) : Tri Tryz.prog r 11 [.slice a ps.length c, .slice b ps.length d] [] fun u H => u = .bool true ∧ H = [] := by
  obtain ⟨Y, hY, hB⟩ := hB
  have h1 := pzc_posts hA hg (by rw [← hZ, List.length_map])
  have h2 := pzc_posts (Z := Y) hB hk (by rw [← hY, List.length_map])
  refine (samePostings_any r _ _ _ _ h1.2 h2.2).mono fun u H ⟨e1, e2⟩ => ⟨e1.trans (congrArg Value.bool (decide_eq_true ?_)), e2⟩
  rw [h1.1, h2.1, hZ, hY]
theorem makeP_bds {ds : List (List UInt8)} {n : Nat} (h : tot ds ds.length ≤ n) : (makeP ds).length ≤ n ∧ ∀ x ∈ makeP ds, x.2.length ≤ n := by
  have h1 := occs_len ds ds.length
  rw [makeP_sort]
  refine ⟨Nat.le_trans (sortP_len _) (by omega), fun x hx => ?_⟩
  rw [sortP_val hx]
  exact Nat.le_trans (grams_getlen _ _) (by omega)
theorem lent_rowz {r : Hp} {v : Value} {Z : List RowV} (h : Sl r 1 v Z.length (Z.flatMap encS)) (hZ : ∀ z ∈ Z, Wide r z.val z.l) : Els r 1 encS v Z ∧ Rowz r v (Z.map bytV) := by
  refine ⟨⟨fun _ => rfl, h⟩, ⟨fun _ => rfl, ?_⟩, fun x hx => ?_⟩
  · rw [List.length_map, show (Z.map bytV).flatMap encBy = Z.flatMap encS by rw [List.flatMap_map]; rfl]
    exact h
  · obtain ⟨z, hz, rfl⟩ := List.mem_map.1 hx
    exact (hZ z hz).sl
set_option maxRecDepth 10000 in
set_option maxHeartbeats 8000000 in
theorem postMakes_any (r : Hp) (v : Value) (bv : List BytV) (hv : Rowz r v bv) (hbn : bv.length ≤ 140737488351232) (hl : ∀ x ∈ bv, x.data.length ≤ 140737488351232) : Tri Tryz.prog r 3 [v] [] fun w H => w = .bool true ∧ H = [] := by
  refine Tri.free2 fun R HR => ?_
  have hgr := great_any r v bv hv (by omega) (fun x hx => by have := hl x hx; omega)
  by_cases hg : 1500 < bv.length + sumR bv
  · rw [decide_eq_true hg] at hgr
    refine fn_of_sw Tryz.func3 rfl _ rfl ?_; refine aen Tryz.ntmps3 ?_
    repeat' (first | (refine acl Tryz.func8 ?_; refine acr (awake19_any _) ?_; rintro v' H' ⟨rfl, rfl⟩; all_goals refine apl ?_) | (refine acl Tryz.func7 ?_; refine acr (hgr) ?_; rintro v' H' ⟨rfl, rfl⟩; all_goals refine apl ?_) | (exfalso; first | contradiction | omega) | refine aw0 ?_ | (refine ap2 ?_ ?_ <;> try intro h) | refine aw1 ?_ | (refine abx ?_; intro bb) | (refine abz ?_; intro bz) | (refine ahv ?_; intro v' hv') | (refine aac ?_; intro ac cc) | refine aw2 ?_ | (refine ap4 ?_ ?_ <;> try intro h) | apply True.intro)
    all_goals (((with_reducible apply fp_ret); exact res_1 rfl rfl); exact HR.out _ _ _ [] Takes.all ⟨rfl, rfl⟩)
  · rw [decide_eq_false hg] at hgr
    have htot := tot_rows bv
    have hrows := lentRows_any r v bv hv (by omega) (fun x hx => by have := sumR_mem hx; omega)
    obtain ⟨hm1, hm2⟩ := makeP_bds (ds := bv.map (·.data)) (n := 1500) (by rw [List.length_map, htot]; omega)
    refine fn_of_sw Tryz.func3 rfl _ rfl ?_; refine aen Tryz.ntmps3 ?_
    repeat' (first | (refine acl Tryz.func7 ?_; refine acr (hgr) ?_; rintro v' H' ⟨rfl, rfl⟩; all_goals refine apl ?_) | (refine acl Tryz.func9 ?_; refine acr (hrows) ?_; rintro v' H' ⟨a1, c1, Z, hZ, rfl, rfl⟩; all_goals refine apl ?_) | ((with_reducible apply sw_freezeT (A := RowC 33 1 (.slice a1 bv.length c1) bv.length (Z.flatMap encS))); (with_reducible (exact atk)); intro r1 g1 hr1 hg1 hA1) | ((with_reducible apply sw_freezeT (A := all (Z.map wideC))); (with_reducible (exact atk)); intro r2 g2 hr2 hg2 hA2) | (exfalso; first | contradiction | omega) | refine aw0 ?_ | (refine ap2 ?_ ?_ <;> try intro h) | refine aw1 ?_ | (refine abx ?_; intro bb) | (refine abz ?_; intro bz) | (refine ahv ?_; intro v' hv') | (refine aac ?_; intro ac cc) | refine aw2 ?_ | (refine ap4 ?_ ?_ <;> try intro h) | apply True.intro)
    have hWz := wide_all hA2 hg2
    have hZl : Z.length = bv.length := by have h := congrArg List.length hZ; rwa [List.length_map, List.length_map] at h
    have hS2 := (hA1.sl hg1).mono hr2
    rw [← hZl] at hS2
    obtain ⟨hE, hRz⟩ := lent_rowz hS2 hWz
    rw [hZl] at hE hRz
    have hv2 : Rowz r2 v bv := ⟨(hv.1.mono hr1).mono hr2, fun x hx => ((hv.2 x hx).mono hr1).mono hr2⟩
    have hZd : (Z.map bytV).map (·.data) = bv.map (·.data) := by rw [List.map_map, ← hZ]; rfl
    have hmk := make_any r2 (.slice a1 bv.length c1) (Z.map bytV) hRz (by rw [List.length_map]; omega) (by rw [hZd, List.length_map, hZl, htot]; omega)
    rw [hZd] at hmk
    have hrm := rmake_any r2 v bv hv2 (by omega) (by rw [htot]; omega)
    have hkr := fun r' (hr : sub r2 r') => keptRows_any r' (.slice a1 bv.length c1) v Z bv (hE.mono hr) ⟨hv2.1.mono hr, fun x hx => (hv2.2 x hx).mono hr⟩ hZ (fun z hz => (hWz z hz).mono hr)
    generalize makeP (bv.map (·.data)) = ps at hm1 hm2 hmk hrm
    have hmk2 := hmk
    repeat' (first | ((fail_if_success have hq := c2); (refine acl Tryz.func10 ?_; refine acr (hmk) ?_; rintro v' H' ⟨a2, c2, rfl, rfl⟩; all_goals refine apl ?_)) | (refine acl Tryz.func10 ?_; refine acr (hmk2) ?_; rintro v' H' ⟨a4, c4, rfl, rfl⟩; all_goals refine apl ?_) | ((with_reducible apply sw_open (A := PostC 53 56 (.slice a2 ps.length c2) ps) (ι := List PZ) (B := fun Z => [PZC 53 56 (.slice a2 ps.length c2) Z]) (φ := fun Z => Z.map (·.1) = ps)); (with_reducible (exact atk)); (exact fun h ⟨Z, h1, h2⟩ => ⟨Z, h1, all_one.2 h2⟩); (rintro Z2 hZ2); (simp only [List.nil_append, List.cons_append])) | ((with_reducible apply sw_open (A := PostC 53 56 (.slice a4 ps.length c4) ps) (ι := List PZ) (B := fun Z => [PZC 53 56 (.slice a4 ps.length c4) Z]) (φ := fun Z => Z.map (·.1) = ps)); (with_reducible (exact atk)); (exact fun h ⟨Z, h1, h2⟩ => ⟨Z, h1, all_one.2 h2⟩); (rintro Z4 hZ4); (simp only [List.nil_append, List.cons_append])) | (exfalso; first | contradiction | omega) | refine aw0 ?_ | (refine ap2 ?_ ?_ <;> try intro h) | refine aw1 ?_ | (refine abx ?_; intro bb) | (refine abz ?_; intro bz) | (refine ahv ?_; intro v' hv') | (refine aac ?_; intro ac cc) | refine aw2 ?_ | (refine ap4 ?_ ?_ <;> try intro h) | apply True.intro)
    have hl2 : Z2.length = ps.length := by rw [← hZ2, List.length_map]
    have hl4 : Z4.length = ps.length := by rw [← hZ4, List.length_map]
    have hap := fun r v h => apartPostings_any r v a2 a4 c2 c4 Z2 Z4 h (by omega) (by omega) (fun z hz => by
      have h1 : z.1 ∈ ps := by
        rcases List.mem_append.1 hz with h | h
        · rw [← hZ2]; exact List.mem_map_of_mem h
        · rw [← hZ4]; exact List.mem_map_of_mem h
      have := hm2 _ h1
      omega)
    rw [hl2, hl4] at hap
    repeat' (first | (refine acl Tryz.func12 ?_; refine acr (hrm) ?_; rintro v' H' ⟨a3, c3, rfl, rfl⟩; all_goals refine apl ?_) | ((with_reducible apply kx_lendC (A := PZC 53 56 (.slice a2 ps.length c2) Z2)); (exact atk); intro rx gx hrx hgx hAx; (with_reducible apply kx_lendC (A := PostC 53 56 (.slice a3 ps.length c3) ps)); (exact atk); intro ry gy hry hgy hAy; (refine acl Tryz.func11 ?_; refine acr (same_post ry hZ2 hAx (fun b o h => hry b o (hgx b o h)) hAy hgy) ?_; rintro v' H' ⟨rfl, rfl⟩; all_goals refine apl ?_)) | (refine acl Tryz.func13 ?_; refine acr (hkr r2 (fun _ _ h => h)) ?_; rintro v' H' ⟨rfl, rfl⟩; all_goals refine apl ?_) | ((with_reducible apply kx_lend [(bz, .cells [.slice a2 ps.length c2, .slice a4 ps.length c4].toArray 26 (0, 0))]); (exact atks); intro r' hl'; refine acl Tryz.func14 ?_; refine acr (hap _ _ (Sl.lit (n := 2) (Lent.h1 hl') rfl (by simp [maxLen]))) ?_; rintro v' H' ⟨rfl, rfl⟩; all_goals refine apm ?_) | (refine acl Tryz.func8 ?_; refine acr (awake19_any _) ?_; rintro v' H' ⟨rfl, rfl⟩; all_goals refine apl ?_) | (exfalso; first | contradiction | omega) | refine aw0 ?_ | (refine ap2 ?_ ?_ <;> try intro h) | refine aw1 ?_ | (refine abx ?_; intro bb) | (refine abz ?_; intro bz) | (refine ahv ?_; intro v' hv') | (refine aac ?_; intro ac cc) | refine aw2 ?_ | (refine ap4 ?_ ?_ <;> try intro h) | apply True.intro)
    ((with_reducible apply fp_ret); exact res_1 rfl rfl)
    exact HR.out _ _ _ [] Takes.all ⟨rfl, rfl⟩
end Go.Proofs.YtkbajhiahpkgiaaGreat

namespace Go.Proofs.YtkbajhiahpkgiaaGreat
open Go.RowKit Sx

namespace Sx
/-- The address of an element of a slice that lies where it is said. -/
theorem pu_ixL {P : Program} {r : Hp} {t : List Value} {d : Option Tmp} {ty : TypeId} {pos : String} {af : Array Edge} {gd : Option (Nat × Bool)} {sz b off n cap : Nat} {T E : TypeId} {x y : Operand} {k : IntKind} {i : Int} {g : Bool} [TyE P T E] [hE : TyF P E g sz] (hx : evO t x = some (.slice (some ⟨b, off, none⟩) n cap)) (hy : evO t y = some (.int k i)) (h0 : 0 ≤ i ∧ i < n) :
    Pur P r t ⟨d, .indexAddr T x y, ty, pos, af, gd⟩ (.pointer (some ⟨b, off + i.toNat * sz, none⟩)) := by
  refine ⟨rfl, fun w _ => ?_⟩
  simp [execOp, Instr.indexAt, asIntOf, ev_of hx, ev_of hy, Sem.run_bind, Result.andThen, run_underlying (ty_slc (P := P) (T := T)), run_sizeOf (P := P) (T := E) hE.size, h0.1, h0.2, add_none]
theorem swo_impA {P : Program} {l : Option Nat} {r : Hp} {K : St} {t : List Value} {H H' : List Ch} {o : Oper} {A B : Ch} (ht : Take A H H') (hab : ∀ h, A h → B h) (h : SWo P l r o K t (B :: H')) : SWo P l r o K t H := fun w g ds ok a => h w g ds ok (by
  obtain ⟨x, y, d, e, hx, hy⟩ := ht.all a
  exact ⟨x, y, d, e, hab _ hx, hy⟩)
/-- What an alternative of the walk asks of the operation ahead of dearer steps. -/
theorem swo_isCall {P : Program} {l : Option Nat} {r : Hp} {K : St} {t : List Value} {H : List Ch} {d : Option Tmp} {ty : TypeId} {pos : String} {af : Array Edge} {gd : Option (Nat × Bool)} {a : Array Operand} {b : Array TypeId} (f : FuncId) (h : SWo P l r ⟨d, .call { callee := .value (.func f), args := a, argTypes := b }, ty, pos, af, gd⟩ K t H) : SWo P l r ⟨d, .call { callee := .value (.func f), args := a, argTypes := b }, ty, pos, af, gd⟩ K t H := h
theorem swo_isApp {P : Program} {l : Option Nat} {r : Hp} {K : St} {t : List Value} {H : List Ch} {d : Option Tmp} {ty : TypeId} {pos : String} {af : Array Edge} {gd : Option (Nat × Bool)} {a : Array Operand} {b : Array TypeId} (h : SWo P l r ⟨d, .call { callee := .builtin .append, args := a, argTypes := b }, ty, pos, af, gd⟩ K t H) : SWo P l r ⟨d, .call { callee := .builtin .append, args := a, argTypes := b }, ty, pos, af, gd⟩ K t H := h
theorem u8s_snoc (B : List UInt8) : u8s B ++ [.int .u8 0] = u8s (B ++ [0]) := by simp [u8s]
end Sx
def plL (e a : Nat) (i : Nat) : PlaceV := ⟨(i : Int) / (e : Int) * (a : Int), (i : Int) % (e : Int) * 3⟩
def plsL (n e a : Nat) : List PlaceV := (List.range n).map (plL e a)
theorem plsL_succ (n e a : Nat) : plsL (n + 1) e a = plsL n e a ++ [plL e a n] := by simp [plsL, List.range_succ]
theorem plsL_len (n e a : Nat) : (plsL n e a).length = n := by simp [plsL]
set_option maxRecDepth 10000 in
set_option maxHeartbeats 2000000 in
theorem lplaces_any (r : Hp) (n e a : Nat) (hn : n ≤ 1000) (he : 0 < e ∧ e ≤ 1000) (ha : a ≤ 10) : Tri Tryz.prog r 34 [.int .i64 n, .int .i64 e, .int .i64 a] [] fun w H => ∃ b c, w = .slice b n c ∧ H = [RowC 56 2 (.slice b n c) n ((plsL n e a).flatMap encPl)] := by
  refine Tri.free2 fun R HR => ?_
  refine fn_of_sw Tryz.func34 rfl _ rfl ?_; refine aen Tryz.ntmps34 ?_
  refine sw_put (A := RowC 56 2 (.slice none 0 0) 0 []) (RowC.nil _ _) ?_
  repeat' (first | refine aw0m ?_ | (refine ap2 ?_ ?_ <;> try intro h) | refine aw1m ?_ | (refine abx ?_; intro bb) | (refine abz ?_; intro bz) | (refine ahv ?_; intro v' hv') | (refine aac ?_; intro ac cc) | refine aw2 ?_ | (refine ap4 ?_ ?_ <;> try intro h) | apply True.intro)
  refine sw_loop (fun gm t H' => ∃ (k : Nat) (b : Option Addr) (c : Nat), gm = n + 1 - k ∧ (k ≤ n) ∧ (∃ G, Takes [RowC 56 2 (.slice b k c) k ((plsL k e a).flatMap encPl)] H' G) ∧ Sls t 28 [(0, .int .i64 n), (1, .int .i64 e), (2, .int .i64 a), (7, .slice b k c), (8, .int .i64 k)]) _ ⟨0, none, 0, rfl, Nat.zero_le _, ⟨_, by (exact atks)⟩, asls⟩ ?_
  rintro gm t H' ⟨k, b, c, rfl, hk, ⟨G, hp⟩, hs'⟩
  revert t; refine sls_all ?_; iterate 23 intro uu'
  refine sw_takeG hp ?_; clear hp
  by_cases hlt : k < n
  · have h1 : 0 ≤ (k : Int) / (e : Int) ∧ (k : Int) / (e : Int) ≤ 1000 := by
      rw [← Int.natCast_ediv]
      have := Nat.div_le_self k e
      generalize k / e = q at this ⊢
      omega
    have h2 : 0 ≤ (k : Int) / (e : Int) * (a : Int) ∧ (k : Int) / (e : Int) * (a : Int) ≤ 10000 := by
      refine ⟨Int.mul_nonneg h1.1 (by omega), ?_⟩
      have h3 : (k : Int) / (e : Int) * (a : Int) ≤ 1000 * 10 := Int.mul_le_mul h1.2 (by omega) (by omega) (by omega)
      generalize (k : Int) / (e : Int) * (a : Int) = z at h3 ⊢
      omega
    have h3 : 0 ≤ (k : Int) % (e : Int) ∧ (k : Int) % (e : Int) ≤ 1000 := by
      rw [← Int.natCast_emod]
      have := Nat.mod_lt k he.1
      generalize k % e = q at this ⊢
      omega
    repeat' (first | (first | ((with_reducible apply sw_draw (id := 5) 13 [(0, true), (1, true), (2, true), (3, true), (4, true), (5, true), (6, true), (7, true), (8, true), (9, true), (10, true), (11, false), (12, false)] [(13, false)] []); kernel_rfl; (exact atks); kernel_rfl; intro r' hl')) | (first | ((with_reducible apply kx_bs1); exact ty_el; exact ty_inf; rfl; rfl; rfl; intro bz; (refine apk ?_)) | ((with_reducible apply kx_bsN); exact ty_el; exact ty_inf; rfl; rfl; rfl; intro bz; (refine apk ?_))) | (first | ((with_reducible apply kx_append1); exact ty_el; exact ty_inf; rfl; rfl; rfl; (exact atk); (exact atk); rfl; omega; intro a' c'; (refine apk ?_)) | ((with_reducible apply kx_appendN); exact ty_el; exact ty_inf; rfl; rfl; rfl; rfl; (exact atk); (exact atk); rfl; rfl; omega; intro a' c'; (refine apk ?_))) | (exfalso; first | contradiction | omega) | refine aw0 ?_ | (refine ap2 ?_ ?_ <;> try intro h) | refine aw1 ?_ | (refine abx ?_; intro bb) | (refine abz ?_; intro bz) | (refine ahv ?_; intro v' hv') | (refine aac ?_; intro ac cc) | refine aw2 ?_ | (refine ap4 ?_ ?_ <;> try intro h) | apply True.intro)
    exact ⟨_, by omega, k + 1, a', c', rfl, by omega, ⟨_, by rw [plsL_succ, List.flatMap_append, show [plL e a k].flatMap encPl = [.int .i64 ((k : Int) / (e : Int) * (a : Int)), .int .i64 ((k : Int) % (e : Int) * 3)] from rfl]; (exact atks)⟩, asls⟩
  · obtain rfl : k = n := by omega
    repeat' (first | (exfalso; first | contradiction | omega) | refine aw0 ?_ | (refine ap2 ?_ ?_ <;> try intro h) | refine aw1 ?_ | (refine abx ?_; intro bb) | (refine abz ?_; intro bz) | (refine ahv ?_; intro v' hv') | (refine aac ?_; intro ac cc) | refine aw2 ?_ | (refine ap4 ?_ ?_ <;> try intro h) | apply True.intro)
    ((with_reducible apply fp_ret); exact res_1 rfl rfl)
    exact HR.out _ _ _ [RowC 56 2 _ _ _] (by (exact atks)) ⟨_, _, rfl, rfl⟩
theorem putE_small {ps : List PostP} {m : Nat} (h : ∀ x ∈ ps, x.2.length ≤ 10000) (hs : sizeQ ps ≤ m) (hn : ps.length ≤ 1000000) : (putE ps).1.length ≤ 24 * m + 6 := by
  unfold putE
  split
  · rename_i hok
    have h1 := putB_24 ps (fun x hx => ⟨postsOk_mem hok x hx, h x hx⟩)
    have h2 := septs_len6 (n := ps.length) (by unfold maxNum; omega)
    have h3 : (putB ps).length = (septs ps.length).length + (ps.flatMap fun x => texts (postB x)).length := by unfold putB; rw [List.length_append]
    show (putB ps).length ≤ _
    omega
  · exact Nat.zero_le _
/-- Postings that may be read wherever a piece lies. -/
def PieceP (A : Ch) (v : Value) (xs : List PostV) : Prop := (∀ g r', A g → sub g r' → Posts r' v xs) ∧ (∀ x ∈ xs, x.gram.length ≤ 4 ∧ x.pl.length ≤ 200) ∧ xs.length ≤ 3
def endsP (n e a k b2 : Nat) (b1 : Option Addr) (c1 : Nat) : List PostV := [⟨[97, 98, 99], .slice b1 n c1, plsL n e a⟩, ⟨[97, 98, 100], .slice (some ⟨b2, 0, none⟩) 1 1, [⟨k, 1048576⟩]⟩]
theorem ends_piece {b b2 n e a k m : Nat} {b1 : Option Addr} {c1 : Nat} (hm : m = 1 ∨ m = 2) (hn : n ≤ 200) : PieceP (all [pt b (.cells [.string (bs [97, 98, 99]), .slice b1 n c1, .string (bs [97, 98, 100]), .slice (some ⟨b2, 0, none⟩) 1 1].toArray 53 (0, 0)), RowC 56 2 (.slice b1 n c1) n ((plsL n e a).flatMap encPl), pt b2 (.cells [.int .i64 k, .int .i64 1048576].toArray 56 (0, 0))]) (.slice (some ⟨b, 0, none⟩) m 2) ((endsP n e a k b2 b1 c1).take m) := by
  refine ⟨fun g r' hA hs => ?_, fun x hx => ?_, ?_⟩
  · obtain ⟨g1, g2, d1, rfl, h1, g3, g4, d2, rfl, h2, g5, g6, d3, rfl, h3, h4⟩ := hA
    have e1 : r' b = some _ := hs b _ (un_left (by rw [h1]; exact one_same))
    have e3 : r' b2 = some _ := hs b2 _ (un_right d1 (un_right d2 (un_left (by rw [h3]; exact one_same))))
    have hs2 : sub g3 r' := fun j o e => hs j o (un_right d1 (un_left e))
    have s1 := Sl.narrow (m := m) (Sl.lit (n := 2) (sz := 2) e1 rfl (by simp [maxLen])) (by omega)
    have hx1 : Els r' 2 encPl (.slice b1 n c1) (plsL n e a) := ⟨fun _ => rfl, by rw [plsL_len]; exact h2.sl hs2⟩
    have hx2 : Els r' 2 encPl (.slice (some ⟨b2, 0, none⟩) 1 1) [(⟨k, 1048576⟩ : PlaceV)] := ⟨fun _ => rfl, Sl.lit (n := 1) (sz := 2) e3 rfl (by simp [maxLen])⟩
    rcases hm with rfl | rfl
    · refine ⟨⟨fun _ => rfl, s1⟩, fun x hx => ?_⟩
      obtain rfl := List.mem_singleton.1 hx
      exact hx1
    · refine ⟨⟨fun _ => rfl, s1⟩, fun x hx => ?_⟩
      rcases List.mem_cons.1 hx with rfl | hx
      · exact hx1
      · obtain rfl := List.mem_singleton.1 hx
        exact hx2
  · have hx := List.mem_of_mem_take hx
    rcases List.mem_cons.1 hx with rfl | hx
    · exact ⟨by simp, by show (plsL n e a).length ≤ 200; rw [plsL_len]; exact hn⟩
    · obtain rfl := List.mem_singleton.1 hx
      exact ⟨by simp, by simp⟩
  · refine Nat.le_trans (List.length_take_le _ _) ?_
    omega
def cntL : List Nat := [1, 2, 63, 64, 65, 127, 128, 129, 200]
theorem cntL_le (i : Nat) : cntL.getD i default ≤ 200 := by
  have h : ∀ n ∈ cntL, n ≤ 200 := by decide
  by_cases hi : i < cntL.length
  · exact h _ (getD_mem hi)
  · rw [List.getD_eq_getElem?_getD, List.getElem?_eq_none (by omega)]
    exact Nat.zero_le _
def encNt2 (n : Nat) : List Value := [.int .i64 n]
def eachL : List Nat := [1, 7, 100]
theorem eachL_le {i : Nat} (hi : i < 3) : 0 < eachL.getD i default ∧ eachL.getD i default ≤ 1000 := by
  have h : ∀ n ∈ eachL, 0 < n ∧ n ≤ 1000 := by decide
  exact h _ (getD_mem (show i < eachL.length from hi))
def endPls : List PlaceV := [⟨-1, 0⟩, ⟨0, -1⟩, ⟨0, 0⟩, ⟨0, 1048576⟩, ⟨0, 1048577⟩, ⟨3999, 0⟩, ⟨4000, 0⟩, ⟨3999, 5⟩]
theorem u8s_set {l : List UInt8} {n : Nat} (i : Int) : (u8s l).set n (.int .u8 (IntKind.u8.wrap i)) = u8s (l.set n (UInt8.ofNat (i % 256).toNat)) := by
  have : IntKind.u8.wrap i = ((UInt8.ofNat (i % 256).toNat).toNat : Nat) := by simp [IntKind.wrap, IntKind.bits, IntKind.signed]; omega
  rw [this]
  simp [u8s, List.map_set]
theorem endGram (i : Int) (_h : 0 ≤ i) : ∃ g : List UInt8, ([.string (bs [97, 98, 99]), .string (bs [97, 98]), .string (bs []), .string (bs [97, 98, 99, 100])] : List Value)[0 + (i / 2 % 4).toNat * 1]? = some (.string (bs g)) ∧ g.length ≤ 4 := by
  have : i / 2 % 4 = 0 ∨ i / 2 % 4 = 1 ∨ i / 2 % 4 = 2 ∨ i / 2 % 4 = 3 := by omega
  rcases this with e | e | e | e <;> rw [e] <;> exact ⟨_, rfl, by decide⟩
theorem posts_two {r' : Hp} {a' : Option Addr} {c' : Nat} {x y : PostV} (h : Sl r' 2 (.slice a' 2 c') 2 (encPo x ++ encPo y)) (hx : Els r' 2 encPl x.val x.pl) (hy : Els r' 2 encPl y.val y.pl) : Posts r' (.slice a' 2 c') [x, y] :=
  ⟨⟨fun _ => rfl, by simpa using h⟩, fun z hz => by
    rcases List.mem_cons.1 hz with rfl | hz
    · exact hx
    · obtain rfl := List.mem_singleton.1 hz
      exact hy⟩
set_option maxRecDepth 10000 in
set_option maxHeartbeats 8000000 in
theorem postEnds_any (r : Hp) : Tri Tryz.prog r 6 [] [] fun w H => w = .bool true ∧ H = [] := by
  refine Tri.free2 fun R HR => ?_
  refine fn_of_sw Tryz.func6 rfl _ rfl ?_; refine aen Tryz.ntmps6 ?_
  repeat' (first | refine aw0m ?_ | (refine ap2 ?_ ?_ <;> try intro h) | refine aw1m ?_ | (refine abx ?_; intro bb) | (refine abz ?_; intro bz) | (refine ahv ?_; intro v' hv') | (refine aac ?_; intro ac cc) | refine aw2 ?_ | (refine ap4 ?_ ?_ <;> try intro h) | apply True.intro)
  revert bz
  intro bc
  refine sw_freezeT (A := pt bc (.cells (cntL.flatMap encNt2).toArray 3 (0, 0))) (by (exact atk)) ?_
  intro r1 g1 hr1 hg1 hA1
  have hcn : Els r1 1 encNt2 (.slice (some ⟨bc, 0, none⟩) 9 9) cntL := ⟨fun _ => rfl, Sl.lit (n := 9) (hg1 bc _ (by rw [hA1]; exact one_same)) rfl (by simp [maxLen])⟩
  have hcl : cntL.length = 9 := rfl
  refine sw_loop (fun gm t H' => ∃ i : Nat, gm = 10 - i ∧ (i ≤ 9) ∧ (∃ G, Takes [] H' G) ∧ Sls t 178 [(1, .slice (some ⟨bc, 0, none⟩) 9 9), (2, .int .i64 i)]) _ ⟨0, rfl, Nat.zero_le _, ⟨[], Takes.all⟩, asls⟩ ?_
  rintro gm t H' ⟨i, rfl, hi, ⟨G, hp⟩, hs'⟩
  revert t; refine sls_all ?_; iterate 176 intro uu'
  refine sw_takeG hp ?_; clear hp
  by_cases hlt : i < 9
  · have hn0 := cntL_le i
    repeat' (first | (exfalso; first | contradiction | omega) | refine aw0 ?_ | (refine ap2 ?_ ?_ <;> try intro h) | refine aw1 ?_ | (refine abx ?_; intro bb) | (refine abz ?_; intro bz) | (refine ahv ?_; intro v' hv') | (refine aac ?_; intro ac cc) | refine aw2 ?_ | (refine ap4 ?_ ?_ <;> try intro h) | apply True.intro)
    refine sw_loop (fun gm t H' => ∃ k : Nat, gm = 4 - k ∧ (k ≤ 3) ∧ (∃ G, Takes [] H' G) ∧ Sls t 178 [(1, .slice (some ⟨bc, 0, none⟩) 9 9), (2, .int .i64 i), (3, .int .i64 k)]) _ ⟨0, rfl, Nat.zero_le _, ⟨[], Takes.all⟩, asls⟩ ?_
    rintro gm t H' ⟨k, rfl, hk, ⟨G, hp⟩, hs'⟩
    revert t; refine sls_all ?_; iterate 175 intro uu'
    refine sw_takeG hp ?_; clear hp
    by_cases hlt1 : k < 3
    · have he0 := eachL_le hlt1
      repeat' (first | ((with_reducible apply sw_midM (c1 := .region 8 _ _) (I := fun t' H' => ∃ (v4 : Value) (xs : List PostV) (As : List Ch), PieceP (all As) v4 xs ∧ (∃ G, Takes As H' G) ∧ (t'.length = 178 ∧ t'[1]? = some (.slice (some ⟨bc, 0, none⟩) 9 9) ∧ t'[2]? = some (.int .i64 i) ∧ t'[3]? = some (.int .i64 k) ∧ t'[4]? = some (v4))))) | (exfalso; first | contradiction | omega) | refine aw0 ?_ | (refine ap2 ?_ ?_ <;> try intro h) | refine aw1 ?_ | (refine abx ?_; intro bb) | (refine abz ?_; intro bz) | (refine ahv ?_; intro v' hv') | (refine aac ?_; intro ac cc) | refine aw2 ?_ | (refine ap4 ?_ ?_ <;> try intro h) | apply True.intro)
      · skip
        obtain rfl | rfl | rfl : k = 0 ∨ k = 1 ∨ k = 2 := by omega
        · repeat' (first | ((with_reducible apply sw_drawT (id := 8) 21 (Pl.seg [(0, true), (1, true), (2, true), (3, true), (5, true), (8, true), (9, true), (12, true), (13, true), (17, true), (18, true), (19, true)] (Pl.two 4 14 (Pl.seg [(6, true)] (Pl.two 7 14 (Pl.seg [] (Pl.two 10 14 (Pl.seg [(11, true), (14, false), (15, true), (16, false), (20, true)] Pl.leaf) (Pl.seg [(15, true), (10, false), (11, true), (16, false), (20, true)] Pl.leaf))) (Pl.seg [(15, true), (7, false), (10, false), (11, true), (16, false), (20, true)] Pl.leaf))) (Pl.seg [(15, true), (4, false), (6, true), (7, false), (10, false), (11, true), (16, false), (20, true)] Pl.leaf))) (List.replicate 21 true ++ List.replicate 1 false).toArray [(21, false)] []); kernel_rfl; (exact atks); kernel_rfl; intro r' hl') | (first | ((with_reducible apply pi_pur); rfl; (exact qwt); (with_reducible apply pu_ixL (n := 3)); rfl; rfl; (omega); (refine apk ?_)) | ((with_reducible apply swo_pur); (with_reducible apply pu_ixL (n := 3)); rfl; rfl; (omega); (refine apk ?_))) | (first | ((with_reducible apply pi_pur); rfl; (exact qwt); (with_reducible apply pu_slX (m := 1)); rfl; rfl; rfl; (omega); (refine apk ?_)) | ((with_reducible apply swo_pur); (with_reducible apply pu_slX (m := 1)); rfl; rfl; rfl; (omega); (refine apk ?_))) | (refine acl Tryz.func34 ?_; refine acr (lplaces_any _ (cntL.getD i default) 1 1 (by omega) ⟨by omega, by omega⟩ (by omega)) ?_; rintro v' H' ⟨b1, c1, rfl, rfl⟩; all_goals refine apl ?_) | (exfalso; first | contradiction | omega) | refine aw0 ?_ | (refine ap2 ?_ ?_ <;> try intro h) | refine aw1 ?_ | (refine abx ?_; intro bb) | (refine abz ?_; intro bz) | (refine ahv ?_; intro v' hv') | (refine aac ?_; intro ac cc) | refine aw2 ?_ | (refine ap4 ?_ ?_ <;> try intro h) | apply True.intro)
          all_goals exact ⟨_, _, _, ends_piece (k := 0) (m := 1) (e := 1) (a := 1) (.inl rfl) hn0, ⟨_, by (exact atks)⟩, rfl, rfl, rfl, rfl, rfl⟩
        · repeat' (first | ((with_reducible apply sw_drawT (id := 8) 21 (Pl.seg [(0, true), (1, true), (2, true), (3, true), (5, true), (8, true), (9, true), (12, true), (13, true), (17, true), (18, true), (19, true)] (Pl.two 4 14 (Pl.seg [(6, true)] (Pl.two 7 14 (Pl.seg [] (Pl.two 10 14 (Pl.seg [(11, true), (14, false), (15, true), (16, false), (20, true)] Pl.leaf) (Pl.seg [(15, true), (10, false), (11, true), (16, false), (20, true)] Pl.leaf))) (Pl.seg [(15, true), (7, false), (10, false), (11, true), (16, false), (20, true)] Pl.leaf))) (Pl.seg [(15, true), (4, false), (6, true), (7, false), (10, false), (11, true), (16, false), (20, true)] Pl.leaf))) (List.replicate 21 true ++ List.replicate 1 false).toArray [(21, false)] []); kernel_rfl; (exact atks); kernel_rfl; intro r' hl') | (first | ((with_reducible apply pi_pur); rfl; (exact qwt); (with_reducible apply pu_ixL (n := 3)); rfl; rfl; (omega); (refine apk ?_)) | ((with_reducible apply swo_pur); (with_reducible apply pu_ixL (n := 3)); rfl; rfl; (omega); (refine apk ?_))) | (first | ((with_reducible apply pi_pur); rfl; (exact qwt); (with_reducible apply pu_slX (m := 2)); rfl; rfl; rfl; (omega); (refine apk ?_)) | ((with_reducible apply swo_pur); (with_reducible apply pu_slX (m := 2)); rfl; rfl; rfl; (omega); (refine apk ?_))) | (refine acl Tryz.func34 ?_; refine acr (lplaces_any _ (cntL.getD i default) 7 2 (by omega) ⟨by omega, by omega⟩ (by omega)) ?_; rintro v' H' ⟨b1, c1, rfl, rfl⟩; all_goals refine apl ?_) | (exfalso; first | contradiction | omega) | refine aw0 ?_ | (refine ap2 ?_ ?_ <;> try intro h) | refine aw1 ?_ | (refine abx ?_; intro bb) | (refine abz ?_; intro bz) | (refine ahv ?_; intro v' hv') | (refine aac ?_; intro ac cc) | refine aw2 ?_ | (refine ap4 ?_ ?_ <;> try intro h) | apply True.intro)
          all_goals exact ⟨_, _, _, ends_piece (k := 1) (m := 2) (e := 7) (a := 2) (.inr rfl) hn0, ⟨_, by (exact atks)⟩, rfl, rfl, rfl, rfl, rfl⟩
        · repeat' (first | ((with_reducible apply sw_drawT (id := 8) 21 (Pl.seg [(0, true), (1, true), (2, true), (3, true), (5, true), (8, true), (9, true), (12, true), (13, true), (17, true), (18, true), (19, true)] (Pl.two 4 14 (Pl.seg [(6, true)] (Pl.two 7 14 (Pl.seg [] (Pl.two 10 14 (Pl.seg [(11, true), (14, false), (15, true), (16, false), (20, true)] Pl.leaf) (Pl.seg [(15, true), (10, false), (11, true), (16, false), (20, true)] Pl.leaf))) (Pl.seg [(15, true), (7, false), (10, false), (11, true), (16, false), (20, true)] Pl.leaf))) (Pl.seg [(15, true), (4, false), (6, true), (7, false), (10, false), (11, true), (16, false), (20, true)] Pl.leaf))) (List.replicate 21 true ++ List.replicate 1 false).toArray [(21, false)] []); kernel_rfl; (exact atks); kernel_rfl; intro r' hl') | (first | ((with_reducible apply pi_pur); rfl; (exact qwt); (with_reducible apply pu_ixL (n := 3)); rfl; rfl; (omega); (refine apk ?_)) | ((with_reducible apply swo_pur); (with_reducible apply pu_ixL (n := 3)); rfl; rfl; (omega); (refine apk ?_))) | (first | ((with_reducible apply pi_pur); rfl; (exact qwt); (with_reducible apply pu_slX (m := 1)); rfl; rfl; rfl; (omega); (refine apk ?_)) | ((with_reducible apply swo_pur); (with_reducible apply pu_slX (m := 1)); rfl; rfl; rfl; (omega); (refine apk ?_))) | (refine acl Tryz.func34 ?_; refine acr (lplaces_any _ (cntL.getD i default) 100 3 (by omega) ⟨by omega, by omega⟩ (by omega)) ?_; rintro v' H' ⟨b1, c1, rfl, rfl⟩; all_goals refine apl ?_) | (exfalso; first | contradiction | omega) | refine aw0 ?_ | (refine ap2 ?_ ?_ <;> try intro h) | refine aw1 ?_ | (refine abx ?_; intro bb) | (refine abz ?_; intro bz) | (refine ahv ?_; intro v' hv') | (refine aac ?_; intro ac cc) | refine aw2 ?_ | (refine ap4 ?_ ?_ <;> try intro h) | apply True.intro)
          all_goals exact ⟨_, _, _, ends_piece (k := 2) (m := 1) (e := 100) (a := 3) (.inl rfl) hn0, ⟨_, by (exact atks)⟩, rfl, rfl, rfl, rfl, rfl⟩
      · rintro t H' ⟨v4, xs, As, hP, ⟨G, hp⟩, hlen, e1, e2, e3, e4⟩
        revert e1 e2 e3 e4; revert t; refine all_len (n := 178) ?_; intro u0 u1 u2 u3 u4 u5 u6 u7 u8 u9 u10 u11 u12 u13 u14 u15 u16 u17 u18 u19 u20 u21 u22 u23 u24 u25 u26 u27 u28 u29 u30 u31 u32 u33 u34 u35 u36 u37 u38 u39 u40 u41 u42 u43 u44 u45 u46 u47 u48 u49 u50 u51 u52 u53 u54 u55 u56 u57 u58 u59 u60 u61 u62 u63 u64 u65 u66 u67 u68 u69 u70 u71 u72 u73 u74 u75 u76 u77 u78 u79 u80 u81 u82 u83 u84 u85 u86 u87 u88 u89 u90 u91 u92 u93 u94 u95 u96 u97 u98 u99 u100 u101 u102 u103 u104 u105 u106 u107 u108 u109 u110 u111 u112 u113 u114 u115 u116 u117 u118 u119 u120 u121 u122 u123 u124 u125 u126 u127 u128 u129 u130 u131 u132 u133 u134 u135 u136 u137 u138 u139 u140 u141 u142 u143 u144 u145 u146 u147 u148 u149 u150 u151 u152 u153 u154 u155 u156 u157 u158 u159 u160 u161 u162 u163 u164 u165 u166 u167 u168 u169 u170 u171 u172 u173 u174 u175 u176 u177 e1 e2 e3 e4; cases e1; cases e2; cases e3; cases e4
        refine sw_takeG hp ?_
        clear hp
        obtain ⟨hP1, hP2, hP3⟩ := hP
        refine sw_joinA (As := As) (D := all As) (H1 := []) (show As.Perm (As ++ []) by rw [List.append_nil]) (fun h e => e) ?_
        refine sw_freezeT (A := all As) (by (exact atk)) ?_
        intro r2 g2 hr2 hg2 hA2
        have hPo := hP1 _ _ hA2 hg2
        have hcn2 := hcn.mono hr2
        have hrp := rput19_any r2 v4 xs hPo (fun x hx => by have := (hP2 x hx).2; omega) (by omega)
        have hpp := postPuts_any r2 v4 xs hPo (fun x hx => by have := hP2 x hx; omega)
        obtain ⟨B, e, hBe⟩ : ∃ B e, putE (xs.map unP) = (B, e) := ⟨_, _, rfl⟩
        have hBl : B.length ≤ 20000 := by
          have h1 := sizeQ_most (xs.map unP) 204 (fun x hx => by
            obtain ⟨y, hy, rfl⟩ := List.mem_map.1 hx
            have := hP2 y hy
            show y.gram.length + y.pl.length ≤ 204
            omega)
          have h2 : (xs.map unP).length * (204 + 1) ≤ 3 * (204 + 1) := Nat.mul_le_mul_right _ (by rw [List.length_map]; exact hP3)
          have h3 := putE_small (ps := xs.map unP) (m := 615) (fun x hx => by
            obtain ⟨y, hy, rfl⟩ := List.mem_map.1 hx
            have := hP2 y hy
            show y.pl.length ≤ 10000
            omega) (by omega) (by rw [List.length_map]; omega)
          rw [hBe] at h3
          dsimp only at h3
          omega
        rw [hBe] at hrp
        dsimp only at hrp
        clear hBe
        repeat' (first | (refine acl Tryz.func25 ?_; refine acr (hrp) ?_; rintro v' H' ⟨a5, c5, rfl, rfl⟩; all_goals refine apl ?_) | (exfalso; first | contradiction | omega) | refine aw0 ?_ | (refine ap2 ?_ ?_ <;> try intro h) | refine aw1 ?_ | (refine abx ?_; intro bb) | (refine abz ?_; intro bz) | (refine ahv ?_; intro v' hv') | (refine aac ?_; intro ac cc) | refine aw2 ?_ | (refine ap4 ?_ ?_ <;> try intro h) | apply True.intro)
        refine swo_impA (A := U8R (.slice a5 B.length c5) B) (B := Two 5 1 (.slice a5 B.length c5) B.length (u8s B) (.slice a5 B.length c5) (B.length) (u8s B)) (by (exact atk)) (fun g h => Two.start h) ?_
        repeat' (first | (refine acl Tryz.func5 ?_; refine acr (hpp) ?_; rintro v' H' ⟨rfl, rfl⟩; all_goals refine apl ?_) | ((with_reducible refine swo_isCall 4 ?_); (with_reducible apply kx_lendC (A := Two 5 1 (.slice a5 B.length c5) B.length (u8s B) (.slice a5 B.length c5) (B.length) (u8s B))); (exact atk); intro r5 g5 hr5 hg5 hA5; (refine acl Tryz.func4 ?_; refine acr (postGets_any r5 _ B [97, 98, 99] _ (hA5.slv hg5) (by omega)) ?_; rintro v' H' ⟨rfl, rfl⟩; all_goals refine apl ?_)) | ((with_reducible refine swo_isCall 4 ?_); (with_reducible apply kx_lendC (A := Two 5 1 (.slice a5 B.length c5) B.length (u8s B) (.slice a' (B.length + 1) c') (B.length + 1) (u8s B ++ [.int .u8 0]))); (exact atk); intro r6 g6 hr6 hg6 hA6; (refine acl Tryz.func4 ?_; refine acr (postGets_any r6 _ (B ++ [0]) [97, 98, 100] _ (by have h := hA6.slu hg6; rw [u8s_snoc] at h; unfold U8S; rw [List.length_append]; exact h) (by rw [List.length_append]; simp; omega)) ?_; rintro v' H' ⟨rfl, rfl⟩; all_goals refine apl ?_)) | (first | ((with_reducible apply kx_bs1); exact ty_el; exact ty_inf; rfl; rfl; rfl; intro bz; (refine apk ?_)) | ((with_reducible apply kx_bsN); exact ty_el; exact ty_inf; rfl; rfl; rfl; intro bz; (refine apk ?_))) | ((with_reducible refine swo_isApp ?_); (with_reducible apply kx_lend [(bz, .cells [.int .u8 (0 : Int)].toArray 5 (0, 0))]); (exact atks); intro r' hl'; (with_reducible apply kx_appTwo (q := 1) (news := [.int .u8 (0 : Int)])); exact ty_el; exact ty_inf; rfl; rfl; rfl; rfl; exact (Sl.lit (n := 1) (Lent.h1 hl') rfl (by simp [maxLen])); (exact atk); rfl; omega; (unfold maxLen; omega); (omega); intro a' c'; (refine apk ?_)) | (exfalso; first | contradiction | omega) | refine aw0 ?_ | (refine ap2 ?_ ?_ <;> try intro h) | refine aw1 ?_ | (refine abx ?_; intro bb) | (refine abz ?_; intro bz) | (refine ahv ?_; intro v' hv') | (refine aac ?_; intro ac cc) | refine aw2 ?_ | (refine ap4 ?_ ?_ <;> try intro h) | apply True.intro)
        refine sw_freezeT (A := Two 5 1 (.slice a5 B.length c5) B.length (u8s B) (.slice a' (B.length + 1) c') (B.length + 1) (u8s B ++ [.int .u8 0])) (by (exact atk)) ?_
        intro r7 g7 hr7 hg7 hA7
        have hU7 : U8S r7 (.slice a5 B.length c5) B := hA7.slv hg7
        clear hA7 hrp hpp
        refine sw_loop (fun gm t H' => ∃ c : Nat, gm = 30001 - c ∧ (c ≤ 30000) ∧ (∃ G, Takes [] H' G) ∧ Sls t 178 [(1, .slice (some ⟨bc, 0, none⟩) 9 9), (2, .int .i64 i), (3, .int .i64 k), (5, .slice a5 B.length c5), (7, .int .i64 c)]) _ ⟨0, rfl, Nat.zero_le _, ⟨_, atks⟩, asls⟩ ?_
        rintro gm t H' ⟨c, rfl, hc, ⟨G, hp⟩, hs'⟩
        revert t; refine sls_all ?_; iterate 173 intro uu'
        refine sw_takeG hp ?_; clear hp
        by_cases hlt2 : c < B.length
        · repeat' (first | ((with_reducible apply kx_appS (news := u8s B)); exact ty_el; exact ty_inf; rfl; rfl; rfl; rfl; exact hU7; (exact atk); exact (u8s_one _); (unfold maxLen; omega); (omega); intro a9 c9; (refine apk ?_)) | (exfalso; first | contradiction | omega) | refine aw0 ?_ | (refine ap2 ?_ ?_ <;> try intro h) | refine aw1 ?_ | (refine abx ?_; intro bb) | (refine abz ?_; intro bz) | (refine ahv ?_; intro v' hv') | (refine aac ?_; intro ac cc) | refine aw2 ?_ | (refine ap4 ?_ ?_ <;> try intro h) | apply True.intro)
          simp only [Nat.zero_add, List.nil_append]
          have hul : (u8s B).length = B.length := by simp [u8s]
          repeat' (first | ((with_reducible apply kx_lendC (A := RowC 5 1 (.slice a9 B.length c9) B.length (u8s B))); (exact atk); intro rx gx hrx hgx hAx; (with_reducible apply swo_pur); (with_reducible apply pu_ldB (l := B) (i := c)); (simp only [Int.toNat_natCast]; rfl); exact (hAx.sl hgx); omega; (refine apk ?_)) | ((with_reducible apply kx_stC); exact ty_size; rfl; rfl; (exact atk); rfl; (omega); (refine apk ?_)) | ((with_reducible apply sw_freezeT (A := RowC 5 1 (.slice a9 B.length c9) B.length ((u8s B).set ((c : Int).toNat * 1) (.int .u8 (IntKind.u8.wrap (((B.getD c 0).toNat : Nat) + (1 + (k : Int)))))))); (with_reducible (exact atk)); intro r9 g9 hr9 hg9 hA9) | refine aw0 ?_ | (refine ap2 ?_ ?_ <;> try intro h) | refine aw1 ?_ | (refine abx ?_; intro bb) | (refine abz ?_; intro bz) | (refine ahv ?_; intro v' hv') | (refine aac ?_; intro ac cc) | refine aw2 ?_ | (refine ap4 ?_ ?_ <;> try intro h) | apply True.intro)
          have hX := hA9.sl hg9
          rw [u8s_set, Int.toNat_natCast, Nat.mul_one] at hX
          clear hA9
          generalize hB9 : B.set c _ = B9 at hX
          have hl9 : B9.length = B.length := by rw [← hB9, List.length_set]
          rw [← hl9] at hX
          have hcx := postGets_any r9 _ B9 [97, 98, 99] 1 hX (by omega)
          rw [hl9] at hcx
          have hU9 := hU7.mono hr9
          repeat' (first | (refine acl Tryz.func4 ?_; refine acr (hcx) ?_; rintro v' H' ⟨rfl, rfl⟩; all_goals refine apl ?_) | (refine acl Tryz.func4 ?_; refine acr (postGets_any _ _ _ [97, 98, 99] 0 hv' (by simp only [List.length_take, List.length_drop]; omega)) ?_; rintro v' H' ⟨rfl, rfl⟩; all_goals refine apl ?_) | (exfalso; first | contradiction | omega) | refine aw0 ?_ | (refine ap2 ?_ ?_ <;> try intro h) | refine aw1 ?_ | (refine abx ?_; intro bb) | (refine abz ?_; intro bz) | (refine ahv ?_; intro v' hv') | (refine aac ?_; intro ac cc) | refine aw2 ?_ | (refine ap4 ?_ ?_ <;> try intro h) | apply True.intro)
          exact ⟨_, by omega, c + 1 + c / 8, rfl, by omega, ⟨_, atks⟩, asls⟩
        · repeat' (first | (exfalso; first | contradiction | omega) | refine aw0 ?_ | (refine ap2 ?_ ?_ <;> try intro h) | refine aw1 ?_ | (refine abx ?_; intro bb) | (refine abz ?_; intro bz) | (refine ahv ?_; intro v' hv') | (refine aac ?_; intro ac cc) | refine aw2 ?_ | (refine ap4 ?_ ?_ <;> try intro h) | apply True.intro)
          exact ⟨_, by omega, k + 1, rfl, by omega, ⟨[], Takes.all⟩, asls⟩
    · obtain rfl : k = 3 := by omega
      repeat' (first | (exfalso; first | contradiction | omega) | refine aw0 ?_ | (refine ap2 ?_ ?_ <;> try intro h) | refine aw1 ?_ | (refine abx ?_; intro bb) | (refine abz ?_; intro bz) | (refine ahv ?_; intro v' hv') | (refine aac ?_; intro ac cc) | refine aw2 ?_ | (refine ap4 ?_ ?_ <;> try intro h) | apply True.intro)
      exact ⟨_, by omega, i + 1, rfl, by omega, ⟨[], Takes.all⟩, asls⟩
  · obtain rfl : i = 9 := by omega
    repeat' (first | (exfalso; first | contradiction | omega) | refine aw0 ?_ | (refine ap2 ?_ ?_ <;> try intro h) | refine aw1 ?_ | (refine abx ?_; intro bb) | (refine abz ?_; intro bz) | (refine ahv ?_; intro v' hv') | (refine aac ?_; intro ac cc) | refine aw2 ?_ | (refine ap4 ?_ ?_ <;> try intro h) | apply True.intro)
    revert bz
    intro be
    refine sw_freezeT (A := pt be (.cells (endPls.flatMap encPl).toArray 56 (0, 0))) (by (exact atk)) ?_
    intro r2 g2 hr2 hg2 hA2
    have hen : Els r2 2 encPl (.slice (some ⟨be, 0, none⟩) 8 8) endPls := ⟨fun _ => rfl, Sl.lit (n := 8) (hg2 be _ (by rw [hA2]; exact one_same)) rfl (by simp [maxLen])⟩
    have hel : endPls.length = 8 := rfl
    clear hA2 hcn hA1
    refine sw_loop (fun gm t H' => ∃ i : Nat, gm = 65 - i ∧ (i ≤ 64) ∧ (∃ G, Takes [] H' G) ∧ Sls t 178 [(9, .slice (some ⟨be, 0, none⟩) 8 8), (10, .int .i64 i)]) _ ⟨0, rfl, Nat.zero_le _, ⟨[], Takes.all⟩, asls⟩ ?_
    rintro gm t H' ⟨i, rfl, hi, ⟨G, hp⟩, hs'⟩
    revert t; refine sls_all ?_; iterate 176 intro uu'
    refine sw_takeG hp ?_; clear hp
    by_cases hlt : i < 64
    · obtain ⟨m, hm, hm1⟩ : ∃ m : Nat, 1 + (i : Int) % 2 = (m : Int) ∧ (m = 1 ∨ m = 2) := ⟨(1 + (i : Int) % 2).toNat, by omega, by omega⟩
      obtain ⟨gr, hgr, hgl⟩ := endGram i (by omega)
      repeat' (first | ((with_reducible apply sw_midM (c1 := .region 23 _ _) (I := fun t' H' => ∃ (b11 bp : Nat) (p q : PlaceV), (∃ G, Takes [pt b11 (.cells [.string (bs gr), .slice (some ⟨bp, 0, none⟩) m 2].toArray 53 (0, 0)), pt bp (.cells (encPl p ++ encPl q).toArray 56 (0, 0))] H' G) ∧ (t'.length = 178 ∧ t'[9]? = some (.slice (some ⟨be, 0, none⟩) 8 8) ∧ t'[10]? = some (.int .i64 i) ∧ t'[11]? = some (.slice (some ⟨b11, 0, none⟩) 1 1))))) | (exfalso; first | contradiction | omega) | refine aw0 ?_ | (refine ap2 ?_ ?_ <;> try intro h) | refine aw1 ?_ | (refine abx ?_; intro bb) | (refine abz ?_; intro bz) | (refine ahv ?_; intro v' hv') | (refine aac ?_; intro ac cc) | refine aw2 ?_ | (refine ap4 ?_ ?_ <;> try intro h) | apply True.intro)
      · skip
        repeat' (first | ((with_reducible apply sw_drawT (id := 23) 23 (Pl.seg [(1, true), (2, true), (3, true), (6, true), (7, true), (8, true), (9, true), (10, true), (11, true), (12, true), (13, true), (14, true), (15, true), (17, true), (18, true), (19, true)] (Pl.two 0 16 (Pl.seg [(4, true)] (Pl.two 5 16 (Pl.seg [(16, false), (20, true), (21, true), (22, false)] Pl.leaf) (Pl.seg [(20, true), (5, false), (21, true), (22, false)] Pl.leaf))) (Pl.seg [(20, true), (0, false), (4, true), (5, false), (21, true), (22, false)] Pl.leaf))) (List.replicate 23 true ++ List.replicate 1 false).toArray [(23, false)] []); kernel_rfl; (exact atks); kernel_rfl; intro r' hl') | (first | ((with_reducible apply pi_pur); rfl; (exact qwt); (with_reducible apply pu_ixL (n := 4)); rfl; rfl; (omega); (refine apk ?_)) | ((with_reducible apply swo_pur); (with_reducible apply pu_ixL (n := 4)); rfl; rfl; (omega); (refine apk ?_))) | ((with_reducible apply pu_slX (m := m)); rfl; rfl; exact hm; (omega); (refine apk ?_)) | ((with_reducible apply pi_pur); rfl; (exact qwt); (with_reducible apply pu_slX (m := m)); rfl; rfl; exact hm; (omega); (refine apk ?_)) | ((with_reducible apply swo_pur); (with_reducible apply pu_slX (m := m)); rfl; rfl; exact hm; (omega); (refine apk ?_)) | ((with_reducible apply kx_load); exact ty_agg; rfl; (apply rl_pt; (exact atk); exact hgr); (refine apk ?_)) | (exfalso; first | contradiction | omega) | refine aw0 ?_ | (refine ap2 ?_ ?_ <;> try intro h) | refine aw1 ?_ | (refine abx ?_; intro bb) | (refine abz ?_; intro bz) | (refine ahv ?_; intro v' hv') | (refine aac ?_; intro ac cc) | refine aw2 ?_ | (refine ap4 ?_ ?_ <;> try intro h) | apply True.intro)
        all_goals exact ⟨_, _, endPls.getD ((i : Int) % 8).toNat default, endPls.getD ((i : Int) / 8).toNat default, ⟨_, by (exact atks)⟩, rfl, rfl, rfl, rfl⟩
      · rintro t H' ⟨b11, bp, p, q, ⟨G, hp⟩, hlen, e9, e10, e11⟩
        revert e9 e10 e11; revert t; refine all_len (n := 178) ?_; intro u0 u1 u2 u3 u4 u5 u6 u7 u8 u9 u10 u11 u12 u13 u14 u15 u16 u17 u18 u19 u20 u21 u22 u23 u24 u25 u26 u27 u28 u29 u30 u31 u32 u33 u34 u35 u36 u37 u38 u39 u40 u41 u42 u43 u44 u45 u46 u47 u48 u49 u50 u51 u52 u53 u54 u55 u56 u57 u58 u59 u60 u61 u62 u63 u64 u65 u66 u67 u68 u69 u70 u71 u72 u73 u74 u75 u76 u77 u78 u79 u80 u81 u82 u83 u84 u85 u86 u87 u88 u89 u90 u91 u92 u93 u94 u95 u96 u97 u98 u99 u100 u101 u102 u103 u104 u105 u106 u107 u108 u109 u110 u111 u112 u113 u114 u115 u116 u117 u118 u119 u120 u121 u122 u123 u124 u125 u126 u127 u128 u129 u130 u131 u132 u133 u134 u135 u136 u137 u138 u139 u140 u141 u142 u143 u144 u145 u146 u147 u148 u149 u150 u151 u152 u153 u154 u155 u156 u157 u158 u159 u160 u161 u162 u163 u164 u165 u166 u167 u168 u169 u170 u171 u172 u173 u174 u175 u176 u177 e9 e10 e11; cases e9; cases e10; cases e11
        refine sw_takeG hp ?_
        clear hp
        refine sw_freezeT (A := pt bp (.cells (encPl p ++ encPl q).toArray 56 (0, 0))) (by (exact atk)) ?_
        intro r3 g3 hr3 hg3 hA3
        refine sw_freezeT (A := pt b11 (.cells [.string (bs gr), .slice (some ⟨bp, 0, none⟩) m 2].toArray 53 (0, 0))) (by (exact atk)) ?_
        intro r4 g4 hr4 hg4 hA4
        have hm2 : m ≤ 2 := by omega
        have e3 : r4 bp = some _ := hr4 bp _ (hg3 bp _ (by rw [hA3]; exact one_same))
        have e4 : r4 b11 = some _ := hg4 b11 _ (by rw [hA4]; exact one_same)
        clear hA3 hA4 hg3 hg4
        have hq1 : Els r4 2 encPl (.slice (some ⟨bp, 0, none⟩) m 2) ([p, q].take m) := ⟨fun _ => rfl, by
          have h := Sl.narrow (m := m) (Sl.lit (n := 2) (sz := 2) e3 rfl (by simp [maxLen])) (by omega)
          rcases hm1 with rfl | rfl <;> exact h⟩
        have hqs : Sl r4 2 (.slice (some ⟨b11, 0, none⟩) 1 1) 1 [.string (bs gr), .slice (some ⟨bp, 0, none⟩) m 2] := Sl.lit (n := 1) (sz := 2) e4 rfl (by simp [maxLen])
        have hql : ([p, q].take m).length ≤ 2 := List.length_take_le' _ _
        have hp1 := postPuts_any r4 _ [⟨gr, .slice (some ⟨bp, 0, none⟩) m 2, [p, q].take m⟩] ⟨⟨fun _ => rfl, hqs⟩, fun x hx => by obtain rfl := List.mem_singleton.1 hx; exact hq1⟩ (fun x hx => by
          obtain rfl := List.mem_singleton.1 hx
          exact ⟨by show gr.length ≤ _; omega, by show ([p, q].take m).length ≤ _; omega⟩)
        have hp2 := fun (r' : Hp) (a' : Option Addr) (c' : Nat) (x2 : PostV) (hs : sub r4 r') (h : Sl r' 2 (.slice a' 2 c') 2 ([.string (bs gr), .slice (some ⟨bp, 0, none⟩) m 2] ++ encPo x2)) (h2 : Els r' 2 encPl x2.val x2.pl) (h3 : x2.gram.length ≤ 10 ∧ x2.pl.length ≤ 10) => postPuts_any r' _ [⟨gr, .slice (some ⟨bp, 0, none⟩) m 2, [p, q].take m⟩, x2] (posts_two h (hq1.mono hs) h2) (fun x hx => by
          rcases List.mem_cons.1 hx with rfl | hx
          · exact ⟨by show gr.length ≤ _; omega, by show ([p, q].take m).length ≤ _; omega⟩
          · obtain rfl := List.mem_singleton.1 hx
            exact ⟨by omega, by omega⟩)
        have hlp := lplaces_any r4 1 1 1 (by omega) ⟨by omega, by omega⟩ (by omega)
        repeat' (first | (refine acl Tryz.func5 ?_; refine acr (hp1) ?_; rintro v' H' ⟨rfl, rfl⟩; all_goals refine apl ?_) | (refine acl Tryz.func34 ?_; refine acr (hlp) ?_; rintro v' H' ⟨b1, c1, rfl, rfl⟩; all_goals refine apl ?_) | (first | ((with_reducible apply kx_bs1); exact ty_el; exact ty_inf; rfl; rfl; rfl; intro bz; (refine apk ?_)) | ((with_reducible apply kx_bsN); exact ty_el; exact ty_inf; rfl; rfl; rfl; intro bz; (refine apk ?_))) | ((with_reducible refine swo_isApp ?_); (with_reducible apply kx_lend [(bz, .cells [.string (bs [97, 98, 98]), .slice b1 1 c1].toArray 53 (0, 0))]); (exact atks); intro r' hl'; (with_reducible apply kx_appG (q := 1) (news := [.string (bs [97, 98, 98]), .slice b1 1 c1])); exact ty_el; exact ty_inf; rfl; rfl; rfl; rfl; exact (hqs.mono hl'.1); exact (Sl.lit (n := 1) (Lent.h1 hl') rfl (by simp [maxLen])); (omega); (unfold maxLen; omega); (omega); intro a2 c2; refine apm ?_) | ((with_reducible refine swo_isApp ?_); (with_reducible apply kx_lend [(bz, .cells [.string (bs [97, 98, 100]), .slice none 0 0].toArray 53 (0, 0))]); (exact atks); intro r' hl'; (with_reducible apply kx_appG (q := 1) (news := [.string (bs [97, 98, 100]), .slice none 0 0])); exact ty_el; exact ty_inf; rfl; rfl; rfl; rfl; exact (hqs.mono hl'.1); exact (Sl.lit (n := 1) (Lent.h1 hl') rfl (by simp [maxLen])); (omega); (unfold maxLen; omega); (omega); intro a3 c3; refine apm ?_) | ((with_reducible refine swo_isCall 5 ?_); (with_reducible apply kx_lendC (A := RowC 56 2 (.slice b1 1 c1) 1 ((plsL 1 1 1).flatMap encPl))); (exact atk); intro r5 g5 hr5 hg5 hA5; (with_reducible apply kx_lendC (A := RowC 53 2 (.slice a2 (1 + 1) c2) (1 + 1) _)); (exact atk); intro r6 g6 hr6 hg6 hA6; (refine acl Tryz.func5 ?_; refine acr (hp2 r6 a2 c2 ⟨[97, 98, 98], .slice b1 1 c1, plsL 1 1 1⟩ (fun _ _ h => hr6 _ _ (hr5 _ _ h)) (hA6.sl hg6) ⟨fun _ => rfl, (hA5.sl hg5).mono hr6⟩ ⟨by simp, by rw [plsL_len]; omega⟩) ?_; rintro v' H' ⟨rfl, rfl⟩; all_goals refine apl ?_)) | ((with_reducible refine swo_isCall 5 ?_); (with_reducible apply kx_lendC (A := RowC 53 2 (.slice a3 (1 + 1) c3) (1 + 1) _)); (exact atk); intro r6 g6 hr6 hg6 hA6; (refine acl Tryz.func5 ?_; refine acr (hp2 r6 a3 c3 ⟨[97, 98, 100], .slice none 0 0, []⟩ hr6 (hA6.sl hg6) ⟨fun _ => rfl, Sl.nil _ _⟩ ⟨by simp, by simp⟩) ?_; rintro v' H' ⟨rfl, rfl⟩; all_goals refine apl ?_)) | (exfalso; first | contradiction | omega) | refine aw0 ?_ | (refine ap2 ?_ ?_ <;> try intro h) | refine aw1 ?_ | (refine abx ?_; intro bb) | (refine abz ?_; intro bz) | (refine ahv ?_; intro v' hv') | (refine aac ?_; intro ac cc) | refine aw2 ?_ | (refine ap4 ?_ ?_ <;> try intro h) | apply True.intro)
        exact ⟨_, by omega, i + 1, rfl, by omega, ⟨_, atks⟩, asls⟩
    · obtain rfl : i = 64 := by omega
      repeat' (first | ((with_reducible apply kx_mark); exact ty_el; kernel_rfl; rfl; (exact atk); (refine apk ?_)) | (exfalso; first | contradiction | omega) | refine aw0 ?_ | (refine ap2 ?_ ?_ <;> try intro h) | refine aw1 ?_ | (refine abx ?_; intro bb) | (refine abz ?_; intro bz) | (refine ahv ?_; intro v' hv') | (refine aac ?_; intro ac cc) | refine aw2 ?_ | (refine ap4 ?_ ?_ <;> try intro h) | apply True.intro)
      revert bz
      revert bz
      revert bz
      revert bz
      intro b1 b2 b3 b4
      have hmk := fun r' (h1 : r' b4 = some (.cells [.slice none 0 0, .slice (some ⟨b1, 0, none⟩) 2 2, .slice (some ⟨b2, 0, none⟩) 6 6, .slice (some ⟨b3, 0, none⟩) 4 4].toArray 33 (0, 0))) (h2 : r' b1 = some (.cells [.int .u8 97, .int .u8 98].toArray 5 (2, 3))) (h3 : r' b2 = some (.cells [.int .u8 97, .int .u8 98, .int .u8 99, .int .u8 97, .int .u8 98, .int .u8 99].toArray 5 (6, 7))) (h4 : r' b3 = some (.cells [.int .u8 0, .int .u8 255, .int .u8 0, .int .u8 255].toArray 5 (0, 0))) => postMakes_any r' (.slice (some ⟨b4, 0, none⟩) 4 4) [⟨.slice none 0 0, []⟩, ⟨.slice (some ⟨b1, 0, none⟩) 2 2, [97, 98]⟩, ⟨.slice (some ⟨b2, 0, none⟩) 6 6, [97, 98, 99, 97, 98, 99]⟩, ⟨.slice (some ⟨b3, 0, none⟩) 4 4, [0, 255, 0, 255]⟩] ⟨⟨fun _ => rfl, Sl.lit h1 rfl (by simp [maxLen])⟩, fun x hx => by
        simp only [List.mem_cons, List.not_mem_nil, or_false] at hx
        rcases hx with rfl | rfl | rfl | rfl
        · exact Sl.nil _ _
        · exact Sl.lit h2 rfl (by simp [maxLen])
        · exact Sl.lit h3 rfl (by simp [maxLen])
        · exact Sl.lit h4 rfl (by simp [maxLen])⟩ (by simp) (fun x hx => by
        simp only [List.mem_cons, List.not_mem_nil, or_false] at hx
        rcases hx with rfl | rfl | rfl | rfl <;> simp)
      have hpn := fun r => postPuts_any r (.slice none 0 0) [] ⟨⟨fun _ => rfl, Sl.nil _ _⟩, fun x hx => by cases hx⟩ (fun x hx => by cases hx)
      have hgn := fun r => postGets_any r (.slice none 0 0) [] [97, 98, 99] 0 (Sl.nil _ _) (by simp)
      repeat' (first | ((with_reducible apply kx_lend [(b4, .cells [.slice none 0 0, .slice (some ⟨b1, 0, none⟩) 2 2, .slice (some ⟨b2, 0, none⟩) 6 6, .slice (some ⟨b3, 0, none⟩) 4 4].toArray 33 (0, 0)), (b1, .cells [.int .u8 97, .int .u8 98].toArray 5 (2, 3)), (b2, .cells [.int .u8 97, .int .u8 98, .int .u8 99, .int .u8 97, .int .u8 98, .int .u8 99].toArray 5 (6, 7)), (b3, .cells [.int .u8 0, .int .u8 255, .int .u8 0, .int .u8 255].toArray 5 (0, 0))]); (exact atks); intro r' hl'; refine acl Tryz.func3 ?_; refine acr (hmk _ (Lent.h1 hl') (Lent.h2 hl') (Lent.h3 hl') (hl'.2 _ (.tail _ (.tail _ (.tail _ (.head _)))))) ?_; rintro v' H' ⟨rfl, rfl⟩; all_goals refine apm ?_) | (refine acl Tryz.func5 ?_; refine acr (hpn _) ?_; rintro v' H' ⟨rfl, rfl⟩; all_goals refine apl ?_) | (refine acl Tryz.func4 ?_; refine acr (hgn _) ?_; rintro v' H' ⟨rfl, rfl⟩; all_goals refine apl ?_) | ((with_reducible apply kx_lend [(bz, .cells [.int .u8 0].toArray 5 (0, 0))]); (exact atks); intro r' hl'; refine acl Tryz.func4 ?_; refine acr (postGets_any _ (.slice (some ⟨bz, 0, none⟩) 1 1) [0] [] 0 (Sl.lit (n := 1) (Lent.h1 hl') rfl (by simp [maxLen])) (by simp)) ?_; rintro v' H' ⟨rfl, rfl⟩; all_goals refine apm ?_) | (refine acl Tryz.func8 ?_; refine acr (awake19_any _) ?_; rintro v' H' ⟨rfl, rfl⟩; all_goals refine apl ?_) | (exfalso; first | contradiction | omega) | refine aw0 ?_ | (refine ap2 ?_ ?_ <;> try intro h) | refine aw1 ?_ | (refine abx ?_; intro bb) | (refine abz ?_; intro bz) | (refine ahv ?_; intro v' hv') | (refine aac ?_; intro ac cc) | refine aw2 ?_ | (refine ap4 ?_ ?_ <;> try intro h) | apply True.intro)
      ((with_reducible apply fp_ret); exact res_1 rfl rfl)
      exact HR.out _ _ _ [] Takes.all ⟨rfl, rfl⟩
end Go.Proofs.YtkbajhiahpkgiaaGreat
