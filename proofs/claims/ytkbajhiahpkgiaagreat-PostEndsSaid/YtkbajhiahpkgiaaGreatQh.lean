
/- mudlarkref19.places: its contract. -/
import Derived.Test.YtkbajhiahpkgiaaGreatQg
import Derived.Test.YtkbajhiahpkgiaaGreatRl
import Derived.Test.YtkbajhiahpkgiaaGreatTw
import Derived.Test.YtkbajhiahpkgiaaGreatDo
namespace Go.Proofs.YtkbajhiahpkgiaaGreat
open Go.RowKit Sx

def encNt (n : Nat) : List Value := [.int .i64 n]
theorem placeR_first (f d t : Nat) : placeR ⟨(f : Int), -1⟩ d t = ⟨(d : Int) + f, t⟩ := by
  unfold placeR
  refine PlaceV.ext2 (Int.add_comm _ _) ?_
  dsimp only
  split <;> omega
theorem placeR_same (q : PlaceV) (t : Nat) : placeR q 0 t = ⟨(0 : Int) + q.doc, (t : Int) + q.pos + 1⟩ := by
  unfold placeR
  refine PlaceV.ext2 (by dsimp only; omega) ?_
  dsimp only
  rw [if_pos (by omega)]; omega
theorem placeR_next (q : PlaceV) (d t : Nat) (hd : d ≠ 0) : placeR q d t = ⟨(d : Int) + q.doc, (t : Int)⟩ := by
  unfold placeR
  refine PlaceV.ext2 (by dsimp only; omega) ?_
  dsimp only
  rw [if_neg (by omega)]
theorem getLastD_snoc (P : List PlaceV) (x d : PlaceV) : (P ++ [x]).getLastD d = x := by
  rw [List.getLastD_eq_getLast?, List.getLast?_append]; rfl
theorem getLastD_at {P : List PlaceV} {i : Nat} (h : P.length = i + 1) : P.getD i default = P.getLastD default := by
  rw [List.getLastD_eq_getLast?, List.getLast?_eq_getElem?, h, List.getD_eq_getElem?_getD]; rfl
set_option maxRecDepth 10000 in
set_option maxHeartbeats 4000000 in
theorem rplaces_any (r : Hp) (g : Nat) (v : Value) (b : List UInt8) (hv : U8S r v b) (ht : 3 ≤ b.length) (hl : b.length ≤ 200000) : Tri Tryz.prog r 50 [.pointer (some ⟨g, 0, none⟩)] [pt g (rrd v (3 : Nat) false)] fun w H => ∃ a c, w = .slice a (read19 b).length c ∧ H = [RowC 56 2 (.slice a (read19 b).length c) (read19 b).length ((read19 b).flatMap encPl)] := by
  refine Tri.free2 fun R HR => ?_
  obtain ⟨N, s0, hNs⟩ : ∃ N s0, numR b.length (some (b.drop 3)) = (N, s0) := ⟨_, _, rfl⟩
  have hN : N ≤ b.length := by have h := numR_most b.length (some (b.drop 3)); rw [hNs] at h; exact h
  have hn := rnumR_any r g v b 3 false b.length hv (by omega) ht
  rw [show refSt b 3 false = some (b.drop 3) from rfl, hNs] at hn
  dsimp only at hn
  have hrd : read19 b = pls19 ((headsR b.length N N 0 s0).1.map (·.doc)) N 0 default (headsR b.length N N 0 s0).2 := by unfold read19; rw [hNs]
  clear hNs
  have hno := fun at2 bad2 (most : Nat) h => rnumR_any r g v b at2 bad2 most hv (by omega) h
  refine fn_of_sw Tryz.func50 rfl _ rfl ?_; refine aen Tryz.ntmps50 ?_
  repeat' (first | (refine acl Tryz.func48 ?_; refine acr (hn) ?_; rintro v' H' ⟨rfl, at1, bad1, hat1, hs1, rfl⟩; all_goals refine apl ?_) | refine aw0 ?_ | (refine ap2 ?_ ?_ <;> try intro h) | refine aw1 ?_ | (refine abx ?_; intro bb) | (refine abz ?_; intro bz) | (refine ahv ?_; intro v' hv') | (refine aac ?_; intro ac cc) | refine aw2 ?_ | (refine ap4 ?_ ?_ <;> try intro h) | apply True.intro)
  subst hs1
  refine sw_put (A := RowC 3 1 (.slice none 0 0) 0 []) (RowC.nil _ _) ?_
  refine sw_loop (fun gm t H' => ∃ (k doc : Nat) (D : List HeadV) (at2 : Nat) (bad2 : Bool) (a : Option Addr) (c : Nat), gm = k + 1 ∧ (headsR b.length N N 0 (refSt b at1 bad1) = (D ++ (headsR b.length k (N - 64 * D.length) doc (refSt b at2 bad2)).1, (headsR b.length k (N - 64 * D.length) doc (refSt b at2 bad2)).2)) ∧ (D.length + k = N) ∧ (doc ≤ 4000 * D.length) ∧ (∀ h ∈ D, h.doc ≤ 4000 * N) ∧ (at2 ≤ b.length) ∧ (∃ G, Takes [pt g (rrd v at2 bad2), RowC 3 1 (.slice a D.length c) D.length ((D.map (·.doc)).flatMap encNt)] H' G) ∧ Sls t 98 [(0, .pointer (some ⟨g, 0, none⟩)), (3, .int .i64 N), (4, .slice a D.length c), (5, .int .i64 doc), (6, .int .i64 (64 * (D.length : Int)))]) _ ⟨N, 0, [], at1, bad1, none, 0, rfl, rfl, by simp, by simp, (fun h hh => by cases hh), hat1, ⟨_, by (exact atks)⟩, asls⟩ ?_
  rintro gm t H' ⟨k, doc, D, at2, bad2, a, c, rfl, hR, hk, hd, hD, hat, ⟨G, hp⟩, hs'⟩
  revert t; refine sls_all ?_; iterate 93 intro uu'
  refine sw_takeG hp ?_; clear hp
  by_cases hgo : 64 * D.length < N ∧ bad2 = false
  · obtain ⟨hlt, rfl⟩ := hgo
    obtain ⟨k, rfl⟩ : ∃ k', k = k' + 1 := ⟨k - 1, by omega⟩
    have hr1 : headsR b.length (k + 1) (N - 64 * D.length) doc (refSt b at2 false) = (⟨doc + (numR 4000 (refSt b at2 false)).1, min (N - 64 * D.length) 64, (numR b.length (numR 4000 (refSt b at2 false)).2).1⟩ :: (headsR b.length k (N - 64 * D.length - 64) (doc + (numR 4000 (refSt b at2 false)).1) (numR b.length (numR 4000 (refSt b at2 false)).2).2).1, (headsR b.length k (N - 64 * D.length - 64) (doc + (numR 4000 (refSt b at2 false)).1) (numR b.length (numR 4000 (refSt b at2 false)).2).2).2) := by
      rw [headsR, if_neg (by simp [refSt]; omega)]
    rw [hr1] at hR
    clear hr1
    have h1 := hno at2 false 4000 hat
    have hd1 : (numR (4000 : Nat) (refSt b at2 false)).1 ≤ 4000 := numR_most 4000 _
    rw [show ((4000 : Nat) : Int) = 4000 from rfl] at h1 hd1
    generalize (numR 4000 (refSt b at2 false)).1 = d at hR h1 hd1
    generalize (numR 4000 (refSt b at2 false)).2 = s1 at hR h1
    repeat' (first | (refine acl Tryz.func48 ?_; refine acr (h1) ?_; rintro v' H' ⟨rfl, at3, bad3, hat3, hs3, rfl⟩; all_goals refine apl ?_) | (first | ((with_reducible apply kx_bs1); exact ty_el; exact ty_inf; rfl; rfl; rfl; intro bz; (refine apk ?_)) | ((with_reducible apply kx_bsN); exact ty_el; exact ty_inf; rfl; rfl; rfl; intro bz; (refine apk ?_))) | (first | ((with_reducible apply kx_append1); exact ty_el; exact ty_inf; rfl; rfl; rfl; (exact atk); (exact atk); rfl; omega; intro a' c'; (refine apk ?_)) | ((with_reducible apply kx_appendN); exact ty_el; exact ty_inf; rfl; rfl; rfl; rfl; (exact atk); (exact atk); rfl; rfl; omega; intro a' c'; (refine apk ?_))) | (exfalso; first | contradiction | omega) | refine aw0 ?_ | (refine ap2 ?_ ?_ <;> try intro h) | refine aw1 ?_ | (refine abx ?_; intro bb) | (refine abz ?_; intro bz) | (refine ahv ?_; intro v' hv') | (refine aac ?_; intro ac cc) | refine aw2 ?_ | (refine ap4 ?_ ?_ <;> try intro h) | apply True.intro)
    subst hs3
    have h2 := hno at3 bad3 b.length hat3
    generalize (numR b.length (refSt b at3 bad3)).1 = z at hR h2
    generalize (numR b.length (refSt b at3 bad3)).2 = s2 at hR h2
    repeat' (first | (refine acl Tryz.func48 ?_; refine acr (h2) ?_; rintro v' H' ⟨rfl, at4, bad4, hat4, hs4, rfl⟩; all_goals refine apl ?_) | (exfalso; first | contradiction | omega) | refine aw0 ?_ | (refine ap2 ?_ ?_ <;> try intro h) | refine aw1 ?_ | (refine abx ?_; intro bb) | (refine abz ?_; intro bz) | (refine ahv ?_; intro v' hv') | (refine aac ?_; intro ac cc) | refine aw2 ?_ | (refine ap4 ?_ ?_ <;> try intro h) | apply True.intro)
    subst hs4
    have hDl : (D ++ [(⟨doc + d, min (N - 64 * D.length) 64, z⟩ : HeadV)]).length = D.length + 1 := by simp
    rw [← hDl]
    exact ⟨_, by omega, k, doc + d, D ++ [⟨doc + d, min (N - 64 * D.length) 64, z⟩], at4, bad4, a', c', rfl, by rw [hR, hDl, show N - 64 * (D.length + 1) = N - 64 * D.length - 64 by omega]; simp, by omega, by omega, (fun h hh => by
      rcases List.mem_append.1 hh with hh | hh
      · exact hD h hh
      · obtain rfl := List.mem_singleton.1 hh
        show doc + d ≤ 4000 * N
        omega), hat4, ⟨_, by rw [List.map_append, List.flatMap_append, show ([(⟨doc + d, min (N - 64 * D.length) 64, z⟩ : HeadV)].map (·.doc)).flatMap encNt = [.int .i64 ((doc : Int) + d)] from rfl]; (exact atks)⟩, asls⟩
  · have hr1 : headsR b.length k (N - 64 * D.length) doc (refSt b at2 bad2) = ([], refSt b at2 bad2) := by
      cases k with
      | zero => rfl
      | succ k =>
        rw [headsR, if_pos]
        cases bad2
        · left; have : ¬ 64 * D.length < N := fun h => hgo ⟨h, rfl⟩
          omega
        · right; rfl
    rw [hr1, List.append_nil] at hR
    clear hr1
    have hsh : bad2 = false → N ≤ 64 * D.length := fun e => by
      have : ¬ 64 * D.length < N := fun h => hgo ⟨h, e⟩
      omega
    rw [hR] at hrd
    dsimp only at hrd
    have hFm : ∀ f ∈ D.map (·.doc), f ≤ 4000 * N := fun f hf => by
      obtain ⟨h, hh, rfl⟩ := List.mem_map.1 hf
      exact hD h hh
    have hFl : (D.map (·.doc)).length = D.length := List.length_map ..
    generalize D.map (·.doc) = F at hrd hFm hFl
    clear hR hD
    generalize D.length = m at *
    have hdef : (default : PlaceV) = ⟨0, 0⟩ := rfl
    obtain ⟨s2, hs2⟩ : ∃ s2, refSt b at2 bad2 = s2 := ⟨_, rfl⟩
    rw [hs2] at hrd
    cases bad2
    all_goals
      repeat' (first | (exfalso; first | contradiction | omega | exact hgo ⟨by omega, rfl⟩) | refine aw0 ?_ | (refine ap2 ?_ ?_ <;> try intro h) | refine aw1 ?_ | (refine abx ?_; intro bb) | (refine abz ?_; intro bz) | (refine ahv ?_; intro v' hv') | (refine aac ?_; intro ac cc) | refine aw2 ?_ | (refine ap4 ?_ ?_ <;> try intro h) | apply True.intro)
    all_goals
      (repeat clear h)
      refine sw_put (A := RowC 56 2 (.slice none 0 0) 0 []) (RowC.nil _ _) ?_
      refine sw_loop (fun gm t H' => ∃ (i : Nat) (P : List PlaceV) (at3 : Nat) (bad3 : Bool) (a2 : Option Addr) (c2 : Nat), gm = N + 1 - i ∧ (i ≤ N) ∧ (pls19 F N 0 default s2 = P ++ pls19 F (N - i) i (P.getLastD default) (refSt b at3 bad3)) ∧ (P.length = i) ∧ (0 ≤ (P.getLastD default).doc ∧ (P.getLastD default).doc ≤ 4000 * ((N : Int) + i) ∧ 0 ≤ (P.getLastD default).pos ∧ (P.getLastD default).pos ≤ 1048577 * (i : Int)) ∧ (at3 ≤ b.length) ∧ (bad3 = false → N ≤ 64 * m) ∧ (∃ G, Takes [pt g (rrd v at3 bad3), RowC 3 1 (.slice a m c) m (F.flatMap encNt), RowC 56 2 (.slice a2 i c2) i (P.flatMap encPl)] H' G) ∧ Sls t 98 [(0, .pointer (some ⟨g, 0, none⟩)), (3, .int .i64 N), (4, .slice a m c), (7, .slice a2 i c2), (8, .int .i64 i)]) _ ⟨0, [], at2, _, none, 0, rfl, Nat.zero_le _, by rw [hs2]; rfl, rfl, by simp [hdef]; omega, hat, hsh, ⟨[], atks⟩, asls⟩ ?_
      rintro gm t H' ⟨i, P, at3, bad3, a2, c2, rfl, hi, hP, hPl, hq, hat3, hbb, ⟨G, hp⟩, hs'⟩
      revert t; refine sls_all ?_; iterate 93 intro uu'
      refine sw_takeG hp ?_; clear hp
      by_cases hgo2 : i < N ∧ bad3 = false
      · obtain ⟨hlt, rfl⟩ := hgo2
        have hm64 := hbb rfl
        have hst : pls19 F (N - i) i (P.getLastD default) (refSt b at3 false) = placeR (baseP F i (P.getLastD default)) (numR 4000 (refSt b at3 false)).1 (numR 1048576 (numR 4000 (refSt b at3 false)).2).1 :: pls19 F (N - (i + 1)) (i + 1) (placeR (baseP F i (P.getLastD default)) (numR 4000 (refSt b at3 false)).1 (numR 1048576 (numR 4000 (refSt b at3 false)).2).1) (numR 1048576 (numR 4000 (refSt b at3 false)).2).2 := by
          rw [show N - i = (N - (i + 1)) + 1 by omega]; rfl
        rw [hst] at hP
        clear hst
        have h1 := hno at3 false 4000 hat3
        have hd1 : (numR (4000 : Nat) (refSt b at3 false)).1 ≤ 4000 := numR_most 4000 _
        rw [show ((4000 : Nat) : Int) = 4000 from rfl] at h1 hd1
        generalize (numR 4000 (refSt b at3 false)).1 = d at hP h1 hd1
        generalize (numR 4000 (refSt b at3 false)).2 = s1 at hP h1
        repeat' (first | (refine acl Tryz.func48 ?_; refine acr (h1) ?_; rintro v' H' ⟨rfl, at4, bad4, hat4, hs4, rfl⟩; all_goals refine apl ?_) | (exfalso; first | contradiction | omega) | refine aw0 ?_ | (refine ap2 ?_ ?_ <;> try intro h) | refine aw1 ?_ | (refine abx ?_; intro bb) | (refine abz ?_; intro bz) | (refine ahv ?_; intro v' hv') | (refine aac ?_; intro ac cc) | refine aw2 ?_ | (refine ap4 ?_ ?_ <;> try intro h) | apply True.intro)
        subst hs4
        have h2 := hno at4 bad4 1048576 hat4
        have hd2 : (numR (1048576 : Nat) (refSt b at4 bad4)).1 ≤ 1048576 := numR_most 1048576 _
        rw [show ((1048576 : Nat) : Int) = 1048576 from rfl] at h2 hd2
        generalize (numR 1048576 (refSt b at4 bad4)).1 = z at hP h2 hd2
        generalize (numR 1048576 (refSt b at4 bad4)).2 = s2 at hP h2

        generalize hqq : P.getLastD default = q at hP hq
        by_cases h64 : i % 64 = 0
        · have hi64 : ((i : Int) / 64).toNat = i / 64 := by omega
          have hm0 : (i : Int) % 64 = 0 := by omega
          have hfm : F.getD (i / 64) default ∈ F := getD_mem (by omega)
          have hfb := hFm _ hfm
          rw [show baseP F i q = ⟨(F.getD (i / 64) default : Nat), -1⟩ from if_pos h64, placeR_first] at hP
          repeat' (first | (refine acl Tryz.func48 ?_; refine acr (h2) ?_; rintro v' H' ⟨rfl, at5, bad5, hat5, hs5, rfl⟩; all_goals refine apl ?_) | ((with_reducible apply kx_ldCF (ia := inferInstance) (enc := encNt) (xs := F) (sz := 1) (j := 0) (i := ((i : Int) / 64).toNat)); (intro _; rfl); rfl; (exact atk); (omega); rfl; (refine apk ?_)) | (rw [hi64]) | (first | ((with_reducible apply kx_bs1); exact ty_el; exact ty_inf; rfl; rfl; rfl; intro bz; (refine apk ?_)) | ((with_reducible apply kx_bsN); exact ty_el; exact ty_inf; rfl; rfl; rfl; intro bz; (refine apk ?_))) | (first | ((with_reducible apply kx_append1); exact ty_el; exact ty_inf; rfl; rfl; rfl; (exact atk); (exact atk); rfl; omega; intro a' c'; (refine apk ?_)) | ((with_reducible apply kx_appendN); exact ty_el; exact ty_inf; rfl; rfl; rfl; rfl; (exact atk); (exact atk); rfl; rfl; omega; intro a' c'; (refine apk ?_))) | (exfalso; first | contradiction | omega) | refine aw0 ?_ | (refine ap2 ?_ ?_ <;> try intro h) | refine aw1 ?_ | (refine abx ?_; intro bb) | (refine abz ?_; intro bz) | (refine ahv ?_; intro v' hv') | (refine aac ?_; intro ac cc) | refine aw2 ?_ | (refine ap4 ?_ ?_ <;> try intro h) | apply True.intro)
          subst hs5
          exact ⟨_, by omega, i + 1, P ++ [⟨(d : Int) + (F.getD (i / 64) default : Nat), z⟩], at5, bad5, a', c', rfl, by omega, by rw [hP, getLastD_snoc]; simp, by rw [List.length_append, hPl]; rfl, by rw [getLastD_snoc]; dsimp only; omega, hat5, (fun _ => hm64), ⟨_, by rw [List.flatMap_append]; (exact atks)⟩, asls⟩
        · obtain ⟨i', rfl⟩ : ∃ i', i = i' + 1 := ⟨i - 1, by omega⟩
          have hi1 : (((i' + 1 : Nat) : Int) - 1).toNat = i' := by omega
          have hlast : P.getD i' default = q := by rw [getLastD_at hPl, hqq]
          rw [show baseP F (i' + 1) q = q from if_neg h64] at hP
          by_cases hd0 : d = 0
          · subst hd0
            rw [placeR_same] at hP
            repeat' (first | (refine acl Tryz.func48 ?_; refine acr (h2) ?_; rintro v' H' ⟨rfl, at5, bad5, hat5, hs5, rfl⟩; all_goals refine apl ?_) | ((with_reducible apply kx_ldCF (ia := inferInstance) (enc := encPl) (xs := P) (sz := 2) (j := 1) (i := i')); (intro _; rfl); rfl; (exact atk); (omega); rfl; (refine apk ?_)) | ((with_reducible apply kx_ldCF (ia := inferInstance) (enc := encPl) (xs := P) (sz := 2) (j := 0) (i := i')); (intro _; rfl); rfl; (exact atk); (omega); rfl; (refine apk ?_)) | (rw [hi1]) | (rw [hlast]) | (first | ((with_reducible apply kx_bs1); exact ty_el; exact ty_inf; rfl; rfl; rfl; intro bz; (refine apk ?_)) | ((with_reducible apply kx_bsN); exact ty_el; exact ty_inf; rfl; rfl; rfl; intro bz; (refine apk ?_))) | (first | ((with_reducible apply kx_append1); exact ty_el; exact ty_inf; rfl; rfl; rfl; (exact atk); (exact atk); rfl; omega; intro a' c'; (refine apk ?_)) | ((with_reducible apply kx_appendN); exact ty_el; exact ty_inf; rfl; rfl; rfl; rfl; (exact atk); (exact atk); rfl; rfl; omega; intro a' c'; (refine apk ?_))) | (exfalso; first | contradiction | omega) | refine aw0 ?_ | (refine ap2 ?_ ?_ <;> try intro h) | refine aw1 ?_ | (refine abx ?_; intro bb) | (refine abz ?_; intro bz) | (refine ahv ?_; intro v' hv') | (refine aac ?_; intro ac cc) | refine aw2 ?_ | (refine ap4 ?_ ?_ <;> try intro h) | apply True.intro)
            subst hs5
            exact ⟨_, by omega, i' + 1 + 1, P ++ [⟨(0 : Int) + q.doc, (z : Int) + q.pos + 1⟩], at5, bad5, a', c', rfl, by omega, by rw [hP, getLastD_snoc]; simp, by rw [List.length_append, hPl]; rfl, by rw [getLastD_snoc]; dsimp only; omega, hat5, (fun _ => hm64), ⟨_, by rw [List.flatMap_append]; (exact atks)⟩, asls⟩
          · rw [placeR_next q d z hd0] at hP
            repeat' (first | (refine acl Tryz.func48 ?_; refine acr (h2) ?_; rintro v' H' ⟨rfl, at5, bad5, hat5, hs5, rfl⟩; all_goals refine apl ?_) | ((with_reducible apply kx_ldCF (ia := inferInstance) (enc := encPl) (xs := P) (sz := 2) (j := 0) (i := i')); (intro _; rfl); rfl; (exact atk); (omega); rfl; (refine apk ?_)) | (rw [hi1]) | (rw [hlast]) | (first | ((with_reducible apply kx_bs1); exact ty_el; exact ty_inf; rfl; rfl; rfl; intro bz; (refine apk ?_)) | ((with_reducible apply kx_bsN); exact ty_el; exact ty_inf; rfl; rfl; rfl; intro bz; (refine apk ?_))) | (first | ((with_reducible apply kx_append1); exact ty_el; exact ty_inf; rfl; rfl; rfl; (exact atk); (exact atk); rfl; omega; intro a' c'; (refine apk ?_)) | ((with_reducible apply kx_appendN); exact ty_el; exact ty_inf; rfl; rfl; rfl; rfl; (exact atk); (exact atk); rfl; rfl; omega; intro a' c'; (refine apk ?_))) | (exfalso; first | contradiction | omega) | refine aw0 ?_ | (refine ap2 ?_ ?_ <;> try intro h) | refine aw1 ?_ | (refine abx ?_; intro bb) | (refine abz ?_; intro bz) | (refine ahv ?_; intro v' hv') | (refine aac ?_; intro ac cc) | refine aw2 ?_ | (refine ap4 ?_ ?_ <;> try intro h) | apply True.intro)
            subst hs5
            exact ⟨_, by omega, i' + 1 + 1, P ++ [⟨(d : Int) + q.doc, (z : Int)⟩], at5, bad5, a', c', rfl, by omega, by rw [hP, getLastD_snoc]; simp, by rw [List.length_append, hPl]; rfl, by rw [getLastD_snoc]; dsimp only; omega, hat5, (fun _ => hm64), ⟨_, by rw [List.flatMap_append]; (exact atks)⟩, asls⟩
      · have hend : pls19 F N 0 default s2 = P := by
          rw [hP]
          cases bad3
          · rw [show N - i = 0 by have : ¬ i < N := fun h => hgo2 ⟨h, rfl⟩
                                  omega]
            try exact List.append_nil _
          · rw [show refSt b at3 true = none from rfl, pls19_none]
            try exact List.append_nil _
        rw [hrd, hend] at HR
        subst hPl
        cases bad3
        all_goals
          repeat' (first | (exfalso; first | contradiction | omega | exact hgo2 ⟨by omega, rfl⟩) | refine aw0 ?_ | (refine ap2 ?_ ?_ <;> try intro h) | refine aw1 ?_ | (refine abx ?_; intro bb) | (refine abz ?_; intro bz) | (refine ahv ?_; intro v' hv') | (refine aac ?_; intro ac cc) | refine aw2 ?_ | (refine ap4 ?_ ?_ <;> try intro h) | apply True.intro)
        all_goals
          ((with_reducible apply fp_ret); exact res_1 rfl rfl)
          exact HR.out _ _ _ [RowC 56 2 _ _ _] (by (exact atks)) ⟨_, _, rfl, rfl⟩
end Go.Proofs.YtkbajhiahpkgiaaGreat
