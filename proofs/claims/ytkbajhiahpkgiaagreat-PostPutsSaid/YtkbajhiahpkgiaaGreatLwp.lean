
/- mudlarklaw19.PostPuts: its contract. -/
import Derived.Test.YtkbajhiahpkgiaaGreatLo
import Derived.Test.YtkbajhiahpkgiaaGreatDo
import Derived.Test.YtkbajhiahpkgiaaGreatQf
import Derived.Test.YtkbajhiahpkgiaaGreatAx
import Derived.Test.YtkbajhiahpkgiaaGreatAb
import Derived.Test.YtkbajhiahpkgiaaGreatPz
import Derived.Test.YtkbajhiahpkgiaaGreatPn
namespace Go.Proofs.YtkbajhiahpkgiaaGreat
open Go.RowKit Sx

theorem apart2_any (r : Hp) (v : Value) (a b : Option Addr) (c d : Nat) (l m : List UInt8) (hv : Sl r 1 v 2 [.slice a l.length c, .slice b m.length d]) (hl : l.length ≤ 100000000) (hm : m.length ≤ 100000000) : Tri Tryz.prog r 33 [v] [U8R (.slice a l.length c) l, U8R (.slice b m.length d) m] fun w H => w = .bool true ∧ H = [] :=
  apartBytes_any r v [⟨a, c, l⟩, ⟨b, d, m⟩] ⟨fun _ => rfl, hv⟩ (by simp) (fun x hx => by
    rcases List.mem_cons.1 hx with rfl | hx
    · exact hl
    · obtain rfl := List.mem_singleton.1 hx; exact hm)
theorem lent_posts {r : Hp} {a : Option Addr} {c : Nat} {Z : List LpV} {g : Hp} (h : RowC 53 2 (.slice a (Z.length + 12) c) (Z.length + 12) ((Z.map lpV ++ marksPo 12).flatMap encPo) g) (hs : sub g r) (hZ : ∀ z ∈ Z, WideP r z) : Z.length + 12 ≤ c ∧ Els r 2 encPo (.slice a (Z.length + 12) c) (Z.map lpV ++ marksPo 12) ∧ Posts r (.slice a Z.length c) (Z.map lpV) := by
  have h1 := h.sl hs
  refine ⟨(RowC.cap h).1, ⟨fun _ => rfl, by rw [List.length_append, marksPo_len, List.length_map]; exact h1⟩, ⟨fun _ => rfl, ?_⟩, fun x hx => ?_⟩
  · have h2 := Sl.narrow h1 (m := Z.length) (by omega)
    rw [List.flatMap_append, show Z.length * 2 = ((Z.map lpV).flatMap encPo).length by rw [flat_len (sz := 2) (fun _ => rfl), List.length_map], List.take_left] at h2
    rw [List.length_map]
    exact h2
  · obtain ⟨z, hz, rfl⟩ := List.mem_map.1 hx
    exact (hZ z hz).els
set_option maxRecDepth 10000 in
set_option maxHeartbeats 8000000 in
theorem postPuts_any (r : Hp) (v : Value) (xs : List PostV) (hv : Posts r v xs) (hl : ∀ x ∈ xs, x.gram.length ≤ 140737488351232 ∧ x.pl.length ≤ 140737488351232) : Tri Tryz.prog r 5 [v] [] fun w H => w = .bool true ∧ H = [] := by
  refine Tri.free2 fun R HR => ?_
  have hpo := postingsOf_any r v xs 1500 hv (fun x hx => by have := hl x hx; omega) (by omega)
  by_cases hs : sizeP xs ≤ 1500
  · obtain ⟨hxn, hxp⟩ := sizeP_ge xs
    have hlp := lentPostings_any r v xs hv (by omega) (fun x hx => by have := (hxp x hx).2; omega)
    refine fn_of_sw Tryz.func5 rfl _ rfl ?_; simp only [Tryz.ntmps5, List.length_cons, List.length_nil, Nat.reduceAdd, Nat.reduceSub, List.replicate_succ, List.replicate_zero, List.nil_append, List.cons_append]
    repeat' (first | ((with_reducible apply kx_call (f := 22) (cap := [])); exact goesOf Tryz.func22 (by kernel_rfl) rfl; rfl; rfl; exact (hpo); (exact atks); rintro v' H' ⟨z, rfl, hz, rfl⟩; all_goals ((try simp only [List.nil_append]); (refine apk ?_))) | ((with_reducible apply kx_call (f := 23) (cap := [])); exact goesOf Tryz.func23 (by kernel_rfl) rfl; rfl; rfl; exact (hlp); (exact atks); rintro v' H' ⟨a1, c1, Z, hZ, rfl, rfl⟩; all_goals ((try simp only [List.cons_append, List.nil_append]); (refine apk ?_))) | ((with_reducible apply sw_freezeT (A := RowC 53 2 (.slice a1 (xs.length + 12) c1) (xs.length + 12) ((Z.map lpV ++ marksPo 12).flatMap encPo))); (with_reducible (exact atk)); intro r1 g1 hr1 hg1 hA1) | ((with_reducible apply sw_freezeT (A := all (Z.map wideP))); (with_reducible (exact atk)); intro r2 g2 hr2 hg2 hA2) | (exfalso; first | contradiction | omega) | (refine aw0 ?_) | (refine ap2 ?_ ?_ <;> first | exact True.intro | intro h) | (refine aw1 ?_) | (refine abx ?_; intro bb) | (refine abz ?_; intro bz) | (refine ahv ?_; intro v' hv') | (refine aac ?_; intro ac cc) | (refine aw2 ?_) | (refine ap4 ?_ ?_ <;> first | exact True.intro | intro h) | (with_reducible refine tr_two ?_ ?_))
    have hWz := widep_all hA2 hg2
    have hZl : Z.length = xs.length := by have h := congrArg List.length hZ; rwa [List.length_map, List.length_map, List.length_map] at h
    rw [← hZl] at hA1
    obtain ⟨hc, hE, hP⟩ := lent_posts hA1 (fun b o e => hr2 b o (hg1 b o e)) hWz
    have hv2 : Posts r2 v xs := (hv.mono hr1).mono hr2
    have hyl : (Z.map lpV).length = xs.length := by rw [List.length_map, hZl]
    have hyp : ∀ y ∈ Z.map lpV, y.pl.length ≤ 10000 := fun y hy => by
      have h1 : unP y ∈ xs.map unP := by rw [← hZ]; exact List.mem_map_of_mem hy
      obtain ⟨x, hx, e⟩ := List.mem_map.1 h1
      have h2 := (hxp x hx).2
      have h3 : y.pl = x.pl := (congrArg Prod.snd e).symm
      rw [h3]; omega
    have hkp := keptPostings_any r2 a1 c1 v Z xs hc hE hWz hv2 hZ
    have hput := put_post_any r2 (.slice a1 Z.length c1) (Z.map lpV) hP hyp (by omega)
    have hrput := rput19_any r2 v xs hv2 (fun x hx => by have := (hxp x hx).2; omega) (by omega)
    have hrt := right_post_any r2 (.slice a1 Z.length c1) (Z.map lpV) hP
    have hrrt := rright_any r2 v xs hv2
    have hu : ∀ i, i < xs.length → unP ((Z.map lpV).getD i default) = unP (xs.getD i default) := fun i hi => by
      have h1 := congrArg (fun l => l[i]?) hZ
      simp only [List.getElem?_map] at h1
      rw [List.getD_eq_getElem?_getD, List.getD_eq_getElem?_getD, List.getElem?_map, List.getElem?_eq_getElem hi, List.getElem?_eq_getElem (show i < Z.length by omega)]
      rw [List.getElem?_eq_getElem hi, List.getElem?_eq_getElem (show i < Z.length by omega)] at h1
      simpa using h1
    rw [hZ] at hput hrt
    obtain ⟨B, e, hBe⟩ : ∃ B e, putE (xs.map unP) = (B, e) := ⟨_, _, rfl⟩
    have hBl : B.length ≤ 50000 := by
      unfold putE at hBe
      split at hBe
      · rename_i hok
        obtain ⟨rfl, _⟩ := Prod.mk.inj hBe
        have h1 := putB_24 (xs.map unP) (fun x hx => ⟨postsOk_mem hok x hx, by
          obtain ⟨y, hy, rfl⟩ := List.mem_map.1 hx
          have := (hxp y hy).2
          show y.pl.length ≤ 10000
          omega⟩)
        rw [sizeQ_un] at h1
        have h2 := septs_len6 (n := (xs.map unP).length) (by rw [List.length_map]; unfold maxNum; omega)
        unfold putB; rw [List.length_append]; omega
      · obtain ⟨rfl, _⟩ := Prod.mk.inj hBe
        exact Nat.zero_le _
    rw [hBe] at hput hrput
    dsimp only at hput hrput
    generalize postsOk [] (xs.map unP) = ok at hrt hrrt
    have hys : Els r2 2 encPo (.slice a1 Z.length c1) (Z.map lpV) := hP.1
    have hxs : Els r2 2 encPo v xs := hv2.1
    have hPm := hP.2
    have hvm := hv2.2
    generalize Z.map lpV = ys at hput hrt hu hys hPm hyl hyp
    rw [hZl] at *
    have hsm := fun r v w hv hw => sameBytes_any r v w B B hv hw
    simp only [decide_true] at hsm
    have hneq : (!(ok == ok)) = false := by simp
    repeat' (first | ((with_reducible apply kx_call (f := 24) (cap := [])); exact goesOf Tryz.func24 (by kernel_rfl) rfl; rfl; rfl; exact (hput); (exact atks); rintro v' H' ⟨a2, c2, rfl, rfl⟩; all_goals ((try simp only [List.cons_append, List.nil_append]); (refine apk ?_))) | (exfalso; first | contradiction | omega) | (refine aw0 ?_) | (refine ap2 ?_ ?_ <;> first | exact True.intro | intro h) | (refine aw1 ?_) | (refine abx ?_; intro bb) | (refine abz ?_; intro bz) | (refine ahv ?_; intro v' hv') | (refine aac ?_; intro ac cc) | (refine aw2 ?_) | (refine ap4 ?_ ?_ <;> first | exact True.intro | intro h) | (with_reducible refine tr_two ?_ ?_))
    repeat' (first | ((with_reducible apply kx_call (f := 25) (cap := [])); exact goesOf Tryz.func25 (by kernel_rfl) rfl; rfl; rfl; exact (hrput); (exact atks); rintro v' H' ⟨a3, c3, rfl, rfl⟩; all_goals ((try simp only [List.cons_append, List.nil_append]); (refine apk ?_))) | (exfalso; first | contradiction | omega) | (refine aw0 ?_) | (refine ap2 ?_ ?_ <;> first | exact True.intro | intro h) | (refine aw1 ?_) | (refine abx ?_; intro bb) | (refine abz ?_; intro bz) | (refine ahv ?_; intro v' hv') | (refine aac ?_; intro ac cc) | (refine aw2 ?_) | (refine ap4 ?_ ?_ <;> first | exact True.intro | intro h) | (with_reducible refine tr_two ?_ ?_))
    repeat' (first | (rw [hneq]) | ((with_reducible apply kx_call (f := 24) (cap := [])); exact goesOf Tryz.func24 (by kernel_rfl) rfl; rfl; rfl; exact (hput); (exact atks); rintro v' H' ⟨a4, c4, rfl, rfl⟩; all_goals ((try simp only [List.cons_append, List.nil_append]); (refine apk ?_))) | ((with_reducible apply kx_call (f := 26) (cap := [])); exact goesOf Tryz.func26 (by kernel_rfl) rfl; rfl; rfl; exact (hrt); (exact atks); rintro v' H' ⟨rfl, rfl⟩; all_goals ((try simp only [List.nil_append]); (refine apk ?_))) | ((with_reducible apply kx_call (f := 27) (cap := [])); exact goesOf Tryz.func27 (by kernel_rfl) rfl; rfl; rfl; exact (hrrt); (exact atks); rintro v' H' ⟨rfl, rfl⟩; all_goals ((try simp only [List.nil_append]); (refine apk ?_))) | ((with_reducible apply kx_lendC (A := U8R (.slice a2 B.length c2) B)); (exact atk); intro r5 g5 hr5 hg5 hA5; (with_reducible apply kx_lendC (A := U8R (.slice a3 B.length c3) B)); (exact atk); intro r6 g6 hr6 hg6 hA6; ((with_reducible apply kx_call (f := 28) (cap := [])); exact goesOf Tryz.func28 (by kernel_rfl) rfl; rfl; rfl; exact (hsm r6 _ _ ((hA5.sl hg5).mono hr6) (hA6.sl hg6)); (exact atks); rintro v' H' ⟨rfl, rfl⟩; all_goals ((try simp only [List.nil_append]); (refine apk ?_)))) | (exfalso; first | contradiction | omega) | (refine aw0 ?_) | (refine ap2 ?_ ?_ <;> first | exact True.intro | intro h) | (refine aw1 ?_) | (refine abx ?_; intro bb) | (refine abz ?_; intro bz) | (refine ahv ?_; intro v' hv') | (refine aac ?_; intro ac cc) | (refine aw2 ?_) | (refine ap4 ?_ ?_ <;> first | exact True.intro | intro h) | (with_reducible refine tr_two ?_ ?_))
    refine sw_loop (fun gm t H' => ∃ k : Nat, gm = xs.length + 1 - k ∧ (k ≤ xs.length) ∧ (∃ G, Takes [U8R (.slice a4 B.length c4) B, U8R (.slice a2 B.length c2) B] H' G) ∧ (t.length = 85 ∧ t[0]? = some (v) ∧ t[3]? = some (.slice a1 xs.length c1) ∧ t[4]? = some (.slice a2 B.length c2) ∧ t[8]? = some (.slice a4 B.length c4) ∧ t[10]? = some (.int .i64 k))) _ ⟨0, rfl, Nat.zero_le _, ⟨_, by (exact atks)⟩, rfl, (by first | rfl | exact congrArg some (congrArg (Value.int _) (by omega)) | exact congrArg some (congrArg (fun n => Value.slice _ n _) (by omega)) | (congr 2 <;> omega)), (by first | rfl | exact congrArg some (congrArg (Value.int _) (by omega)) | exact congrArg some (congrArg (fun n => Value.slice _ n _) (by omega)) | (congr 2 <;> omega)), (by first | rfl | exact congrArg some (congrArg (Value.int _) (by omega)) | exact congrArg some (congrArg (fun n => Value.slice _ n _) (by omega)) | (congr 2 <;> omega)), (by first | rfl | exact congrArg some (congrArg (Value.int _) (by omega)) | exact congrArg some (congrArg (fun n => Value.slice _ n _) (by omega)) | (congr 2 <;> omega)), (by first | rfl | exact congrArg some (congrArg (Value.int _) (by omega)) | exact congrArg some (congrArg (fun n => Value.slice _ n _) (by omega)) | (congr 2 <;> omega))⟩ ?_
    rintro gm t H' ⟨k, rfl, hk, ⟨G, hp⟩, hlen, e0, e3, e4, e8, e10⟩
    revert e0 e3 e4 e8 e10; revert t; refine all_len (n := 85) ?_; iterate 85 intro uu'
    intro e0 e3 e4 e8 e10; cases e0; cases e3; cases e4; cases e8; cases e10
    refine sw_takeG hp ?_
    clear hp
    by_cases hlt : k < xs.length
    · have hpl : (ys.getD k default).pl = (xs.getD k default).pl := congrArg Prod.snd (hu k hlt)
      have hx1 := hvm _ (getD_mem hlt)
      have hy1 := hPm _ (getD_mem (show k < ys.length by omega))
      rw [hpl] at hy1
      have hlen : (xs.getD k default).pl.length ≤ 10000 := by have := (hxp _ (getD_mem hlt)).2; omega
      have hd1 := fun r' (hr : sub r2 r') => docs_post_any r' (ys.getD k default).val (xs.getD k default).pl (hy1.mono hr) (by omega)
      have hd2 := fun r' (hr : sub r2 r') => rdocs_any r' (xs.getD k default).val (xs.getD k default).pl (hx1.mono hr) (by omega)
      generalize docsK (xs.getD k default).pl (xs.getD k default).pl.length = D at hd1 hd2
      have hsi := fun r v w hv hw => sameInts_any r v w D D hv hw
      simp only [decide_true] at hsi
      repeat' (first | (first | ((with_reducible apply sw_draw (id := 12) 14 [(0, true), (1, true), (2, true), (3, true), (4, true), (6, true), (7, true), (8, true), (9, true), (10, true), (5, false), (11, false), (12, false), (13, true)] [] []); kernel_rfl; (exact atks); kernel_rfl; intro r' hl')) | ((with_reducible apply kx_call (f := 30) (cap := [])); exact goesOf Tryz.func30 (by kernel_rfl) rfl; rfl; rfl; exact (hd1 _ hl'.1); (exact atks); rintro v' H' ⟨a7, c7, rfl, rfl⟩; all_goals ((try simp only [List.cons_append, List.nil_append]); (refine apk ?_))) | ((with_reducible apply kx_call (f := 31) (cap := [])); exact goesOf Tryz.func31 (by kernel_rfl) rfl; rfl; rfl; exact (hd2 _ hl'.1); (exact atks); rintro v' H' ⟨a8, c8, rfl, rfl⟩; all_goals ((try simp only [List.cons_append, List.nil_append]); (refine apk ?_))) | ((with_reducible apply kx_lendC (A := RowC 3 1 (.slice a7 D.length c7) D.length (D.flatMap encI))); (exact atk); intro r5 g5 hr5 hg5 hA5; (with_reducible apply kx_lendC (A := RowC 3 1 (.slice a8 D.length c8) D.length (D.flatMap encI))); (exact atk); intro r6 g6 hr6 hg6 hA6; ((with_reducible apply kx_call (f := 29) (cap := [])); exact goesOf Tryz.func29 (by kernel_rfl) rfl; rfl; rfl; exact (hsi r6 _ _ ⟨fun _ => rfl, (hA5.sl hg5).mono hr6⟩ ⟨fun _ => rfl, hA6.sl hg6⟩); (exact atks); rintro v' H' ⟨rfl, rfl⟩; all_goals ((try simp only [List.nil_append]); (refine apk ?_)))) | (exfalso; first | contradiction | omega) | (refine aw0 ?_) | (refine ap2 ?_ ?_ <;> first | exact True.intro | intro h) | (refine aw1 ?_) | (refine abx ?_; intro bb) | (refine abz ?_; intro bz) | (refine ahv ?_; intro v' hv') | (refine aac ?_; intro ac cc) | (refine aw2 ?_) | (refine ap4 ?_ ?_ <;> first | exact True.intro | intro h) | (with_reducible refine tr_two ?_ ?_))
      all_goals exact ⟨_, (by omega), k + 1, rfl, by omega, ⟨_, by (exact atks)⟩, rfl, (by first | rfl | exact congrArg some (congrArg (Value.int _) (by omega)) | exact congrArg some (congrArg (fun n => Value.slice _ n _) (by omega)) | (congr 2 <;> omega)), (by first | rfl | exact congrArg some (congrArg (Value.int _) (by omega)) | exact congrArg some (congrArg (fun n => Value.slice _ n _) (by omega)) | (congr 2 <;> omega)), (by first | rfl | exact congrArg some (congrArg (Value.int _) (by omega)) | exact congrArg some (congrArg (fun n => Value.slice _ n _) (by omega)) | (congr 2 <;> omega)), (by first | rfl | exact congrArg some (congrArg (Value.int _) (by omega)) | exact congrArg some (congrArg (fun n => Value.slice _ n _) (by omega)) | (congr 2 <;> omega)), (by first | rfl | exact congrArg some (congrArg (Value.int _) (by omega)) | exact congrArg some (congrArg (fun n => Value.slice _ n _) (by omega)) | (congr 2 <;> omega))⟩
    · obtain rfl : k = xs.length := by omega
      repeat' (first | ((with_reducible apply kx_call (f := 32) (cap := [])); exact goesOf Tryz.func32 (by kernel_rfl) rfl; rfl; rfl; exact (hkp); (exact atks); rintro v' H' ⟨rfl, rfl⟩; all_goals ((try simp only [List.nil_append]); (refine apk ?_))) | ((with_reducible apply kx_lend [(bz, .cells [.slice a2 B.length c2, .slice a4 B.length c4].toArray 33 (0, 0))]); (exact atks); intro r' hl'; (with_reducible apply kx_call (f := 33) (cap := [])); exact goesOf Tryz.func33 (by kernel_rfl) rfl; rfl; rfl; exact (apart2_any _ _ a2 a4 c2 c4 B B (Sl.lit (n := 2) (Lent.h1 hl') rfl (by simp [maxLen])) (by omega) (by omega)); (exact atks); rintro v' H' ⟨rfl, rfl⟩; all_goals ((try simp only [pts, List.map_cons, List.map_nil, List.cons_append, List.nil_append]); (refine apk ?_))) | ((with_reducible apply kx_call (f := 8) (cap := [])); exact goesOf Tryz.func8 (by kernel_rfl) rfl; rfl; rfl; exact (awake19_any _); (exact atks); rintro v' H' ⟨rfl, rfl⟩; all_goals ((try simp only [List.nil_append]); (refine apk ?_))) | (exfalso; first | contradiction | omega) | (refine aw0 ?_) | (refine ap2 ?_ ?_ <;> first | exact True.intro | intro h) | (refine aw1 ?_) | (refine abx ?_; intro bb) | (refine abz ?_; intro bz) | (refine ahv ?_; intro v' hv') | (refine aac ?_; intro ac cc) | (refine aw2 ?_) | (refine ap4 ?_ ?_ <;> first | exact True.intro | intro h) | (with_reducible refine tr_two ?_ ?_))
      ((with_reducible apply fp_ret); exact res_1 rfl rfl)
      exact HR.out _ _ _ [] Takes.all ⟨rfl, rfl⟩
  · refine fn_of_sw Tryz.func5 rfl _ rfl ?_; simp only [Tryz.ntmps5, List.length_cons, List.length_nil, Nat.reduceAdd, Nat.reduceSub, List.replicate_succ, List.replicate_zero, List.nil_append, List.cons_append]
    repeat' (first | ((with_reducible apply kx_call (f := 8) (cap := [])); exact goesOf Tryz.func8 (by kernel_rfl) rfl; rfl; rfl; exact (awake19_any _); (exact atks); rintro v' H' ⟨rfl, rfl⟩; all_goals ((try simp only [List.nil_append]); (refine apk ?_))) | ((with_reducible apply kx_call (f := 22) (cap := [])); exact goesOf Tryz.func22 (by kernel_rfl) rfl; rfl; rfl; exact (hpo); (exact atks); rintro v' H' ⟨z, rfl, hz, rfl⟩; all_goals ((try simp only [List.nil_append]); (refine apk ?_))) | (exfalso; first | contradiction | omega) | (refine aw0 ?_) | (refine ap2 ?_ ?_ <;> first | exact True.intro | intro h) | (refine aw1 ?_) | (refine abx ?_; intro bb) | (refine abz ?_; intro bz) | (refine ahv ?_; intro v' hv') | (refine aac ?_; intro ac cc) | (refine aw2 ?_) | (refine ap4 ?_ ?_ <;> first | exact True.intro | intro h) | (with_reducible refine tr_two ?_ ?_))
    all_goals (((with_reducible apply fp_ret); exact res_1 rfl rfl); exact HR.out _ _ _ [] Takes.all ⟨rfl, rfl⟩)
end Go.Proofs.YtkbajhiahpkgiaaGreat
