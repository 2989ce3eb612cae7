/- mudlarklaw19.PostBack: its contract. -/
import Derived.Test.YtkbajhiahpkgiaaAx
import Derived.Test.YtkbajhiahpkgiaaPz
namespace Go.Proofs.Ytkbajhiahpkgiaa
open Go.RowKit Sx

theorem flat12 : ∀ L : List (List PlaceV), (∀ c ∈ L, (block1 c).length ≤ 12 * c.length) → (L.flatMap block1).length ≤ 12 * L.flatten.length
  | [], _ => by simp
  | a :: L, h => by
    have h1 := h a List.mem_cons_self
    have h2 := flat12 L fun z hz => h z (List.mem_cons_of_mem _ hz)
    rw [List.flatMap_cons, List.flatten_cons, List.length_append, List.length_append]; omega
theorem chunk12 {a0 : PlaceV} {l : List PlaceV} (h : chainP a0 l = true) : ∀ c ∈ chunks l, (block1 c).length ≤ 12 * c.length := by
  intro c hc
  obtain ⟨hn, a, ha⟩ := (chunks_all _ l a0 (Nat.le_refl _) h).2 c hc
  have h1 := chain_ge c a ha
  have hp : 0 ≤ (c.headD default).doc := (chunk_ok h c hc).2.1
  exact blockB_le c ⟨(c.headD default).doc, -1⟩ (fun p hp => (h1 p hp).2) hp (Int.le_refl _)
theorem postB_24 {x : PostP} (h : postOk x = true) (hl : x.2.length ≤ 10000) : (postB x).length ≤ 9 + 24 * x.2.length := by
  obtain ⟨hc, h3, hne⟩ := postOk_chain h
  have h1 := headsB_le (chunks x.2) 0 (chunk_ok hc) (Int.le_refl _)
  have h2 := flat12 (chunks x.2) (chunk12 hc)
  rw [(chunks_all _ x.2 _ (Nat.le_refl _) hc).1] at h2
  have h4 := septs_len6 (n := x.2.length) (by unfold maxNum; omega)
  have h5 : (chunks x.2).length = (x.2.length + 63) / 64 := chunks_len
  have h6 := List.length_pos_iff.2 hne
  unfold postB
  rw [List.length_append, List.length_append, List.length_append]
  omega
def sizeQ (ps : List PostP) : Nat := (ps.map fun x => 1 + x.1.length + x.2.length).sum
theorem putB_24 : ∀ ps : List PostP, (∀ x ∈ ps, postOk x = true ∧ x.2.length ≤ 10000) → (ps.flatMap fun x => texts (postB x)).length ≤ 24 * sizeQ ps
  | [], _ => by simp [sizeQ]
  | x :: ps, h => by
    obtain ⟨h1, h2⟩ := h x List.mem_cons_self
    have ih := putB_24 ps fun y hy => h y (List.mem_cons_of_mem _ hy)
    have h3 := postB_24 h1 h2
    have h4 := (postOk_chain h1).2.1
    have h5 := septs_len6 (n := (postB x).length) (by unfold maxNum; omega)
    rw [List.flatMap_cons, List.length_append]
    unfold sizeQ at ih ⊢
    rw [List.map_cons, List.sum_cons]
    unfold texts at ih ⊢
    rw [List.length_append]
    omega
theorem sizeQ_un (xs : List PostV) : sizeQ (xs.map unP) = sizeP xs := by unfold sizeQ sizeP; rw [List.map_map]; rfl
theorem sizeP_ge : ∀ xs : List PostV, xs.length ≤ sizeP xs ∧ ∀ x ∈ xs, x.gram.length ≤ sizeP xs ∧ x.pl.length ≤ sizeP xs
  | [] => ⟨Nat.le_refl _, fun x hx => by cases hx⟩
  | y :: xs => by
    obtain ⟨h1, h2⟩ := sizeP_ge xs
    unfold sizeP at h1 h2 ⊢
    rw [List.map_cons, List.sum_cons]
    refine ⟨by rw [List.length_cons]; omega, fun x hx => ?_⟩
    rcases List.mem_cons.1 hx with rfl | hx
    · omega
    · have := h2 x hx; omega
/-- The places that are wanted. -/
def wantP (xs : List PostV) (g : List UInt8) (d : Int) : List PlaceV := xs.flatMap fun x => x.pl.filter fun p => decide (x.gram = g) && decide (d ≤ p.doc)
theorem wantP_eq (xs : List PostV) (g : List UInt8) (d : Int) : wantP xs g d = fromP (xs.map unP) g d := by
  unfold wantP fromP; rw [List.flatMap_map]; rfl
theorem wantP_len : ∀ (xs : List PostV) (g : List UInt8) (d : Int), (wantP xs g d).length ≤ sizeP xs
  | [], _, _ => by simp [wantP]
  | x :: xs, g, d => by
    have ih := wantP_len xs g d
    unfold wantP sizeP at ih ⊢
    rw [List.flatMap_cons, List.length_append, List.map_cons, List.sum_cons]
    have := List.length_filter_le (fun p => decide (x.gram = g) && decide (d ≤ p.doc)) x.pl
    omega
theorem wantP_snoc {xs : List PostV} {k : Nat} (h : k < xs.length) (g : List UInt8) (d : Int) : wantP (xs.take (k + 1)) g d = wantP (xs.take k) g d ++ (xs.getD k default).pl.filter fun p => decide ((xs.getD k default).gram = g) && decide (d ≤ p.doc) := by
  unfold wantP
  rw [take_getD (d := default) h, List.flatMap_append]
  simp
theorem filt_snoc {l : List PlaceV} {k : Nat} (h : k < l.length) (q : PlaceV → Bool) : (l.take (k + 1)).filter q = (l.take k).filter q ++ (if q (l.getD k default) then [l.getD k default] else []) := by
  rw [take_getD (d := default) h, List.filter_append]
  congr 1
  simp [List.filter_cons]
set_option maxRecDepth 10000 in
set_option maxHeartbeats 8000000 in
theorem postBack_any (r : Hp) (v vb : Value) (xs : List PostV) (b gr : List UInt8) (d : Int) (hv : Posts r v xs) (hl : ∀ x ∈ xs, x.gram.length ≤ 140737488351232 ∧ x.pl.length ≤ 140737488351232) (hvb : U8S r vb b) (hbl : b.length ≤ 140737488351232) : Tri Try.prog r 4 [v, vb, .string (bs gr), .int .i64 d] [] fun w H => w = .bool true ∧ H = [] := by
  refine Tri.free2 fun R HR => ?_
  have hvn := hv.1.2.2.1
  have hpo := postingsOf_any r v xs 1500 hv (fun x hx => by have := hl x hx; omega) (by omega)
  by_cases hs : sizeP xs ≤ 1500
  · by_cases hb : b.length ≤ 1500
    · obtain ⟨hxn, hxp⟩ := sizeP_ge xs
      have hput := put_post_any r v xs hv (fun x hx => by have := (hxp x hx).2; omega) (by omega)
      cases hok : postsOk [] (xs.map unP)
      · rw [show putE (xs.map unP) = ([], 2) by unfold putE; rw [hok]; rfl] at hput
        dsimp only at hput
        refine fn_of_sw Try.func4 rfl _ rfl ?_; simp only [Try.ntmps4, List.length_cons, List.length_nil, Nat.reduceAdd, Nat.reduceSub, List.replicate_succ, List.replicate_zero, List.nil_append, List.cons_append]
        repeat' (first | ((with_reducible apply kx_call (f := 11) (cap := [])); exact goesOf Try.func11 (by kernel_rfl) rfl; rfl; rfl; exact (awake19_any _); (exact atks); rintro v' H' ⟨rfl, rfl⟩; all_goals ((try simp only [List.nil_append]); (refine apk ?_))) | ((with_reducible apply kx_call (f := 12) (cap := [])); exact goesOf Try.func12 (by kernel_rfl) rfl; rfl; rfl; exact (hpo); (exact atks); rintro v' H' ⟨z, rfl, hz, rfl⟩; all_goals ((try simp only [List.nil_append]); (refine apk ?_))) | ((with_reducible apply kx_call (f := 13) (cap := [])); exact goesOf Try.func13 (by kernel_rfl) rfl; rfl; rfl; exact (hput); (exact atks); rintro v' H' ⟨a1, c1, rfl, rfl⟩; all_goals ((try simp only [List.cons_append, List.nil_append]); (refine apk ?_))) | (exfalso; first | contradiction | omega) | (refine aw0 ?_) | (refine ap2 ?_ ?_ <;> first | exact True.intro | intro h) | (refine aw1 ?_) | (refine abx ?_; intro bb) | (refine abz ?_; intro bz) | (refine ahv ?_; intro v' hv') | (refine aac ?_; intro ac cc) | (refine aw2 ?_) | (refine ap4 ?_ ?_ <;> first | exact True.intro | intro h) | (with_reducible refine tr_two ?_ ?_))
        have hgb := get_post_any r vb b hvb (by omega)
        cases hgp : getP b with
        | none =>
          rw [hgp] at hgb
          simp only [Option.getD_none, Option.isSome_none, List.length_nil] at hgb
          repeat' (first | ((with_reducible apply kx_call (f := 14) (cap := [])); exact goesOf Try.func14 (by kernel_rfl) rfl; rfl; rfl; exact (hgb); (exact atks); rintro v' H' ⟨a7, c7, rfl, rfl⟩; all_goals ((try simp only [List.cons_append, List.nil_append]); (refine apk ?_))) | ((with_reducible apply sw_open (A := PostC 42 44 (.slice a7 0 c7) []) (ι := List PZ) (B := fun Z => [PZC 42 44 (.slice a7 0 c7) Z]) (φ := fun Z => Z.map (·.1) = [])); (with_reducible (exact atk)); (exact fun h ⟨Z, h1, h2⟩ => ⟨Z, h1, all_one.2 h2⟩); (rintro Z7 hZ7); (simp only [List.nil_append, List.cons_append])) | ((with_reducible apply sw_freezeT (A := PZC 42 44 (.slice a7 0 c7) Z7)); (with_reducible (exact atk)); intro r7 g7 hr7 hg7 hA7) | (refine aw0 ?_) | (refine ap2 ?_ ?_ <;> first | exact True.intro | intro h) | (refine aw1 ?_) | (refine abx ?_; intro bb) | (refine abz ?_; intro bz) | (refine ahv ?_; intro v' hv') | (refine aac ?_; intro ac cc) | (refine aw2 ?_) | (refine ap4 ?_ ?_ <;> first | exact True.intro | intro h) | (with_reducible refine tr_two ?_ ?_))
          obtain ⟨hx7, hP7⟩ := pzc_posts hA7 hg7 (show Z7.length = 0 by have h := congrArg List.length hZ7; rwa [List.length_map] at h)
          rw [hZ7] at hx7
          generalize Z7.map pvZ = ys at hx7 hP7
          obtain rfl : ys = [] := List.map_eq_nil_iff.1 hx7
          have hpt := put_post_any r7 (.slice a7 0 c7) [] hP7 (fun x hx => by cases hx) (by simp)
          repeat' (first | ((with_reducible apply kx_call (f := 13) (cap := [])); exact goesOf Try.func13 (by kernel_rfl) rfl; rfl; rfl; exact (hpt); (exact atks); rintro v' H' ⟨a8, c8, rfl, rfl⟩; all_goals ((try simp only [List.cons_append, List.nil_append]); (refine apk ?_))) | (exfalso; first | contradiction | omega) | (refine aw0 ?_) | (refine ap2 ?_ ?_ <;> first | exact True.intro | intro h) | (refine aw1 ?_) | (refine abx ?_; intro bb) | (refine abz ?_; intro bz) | (refine ahv ?_; intro v' hv') | (refine aac ?_; intro ac cc) | (refine aw2 ?_) | (refine ap4 ?_ ?_ <;> first | exact True.intro | intro h) | (with_reducible refine tr_two ?_ ?_))
          all_goals (((with_reducible apply fp_ret); exact res_1 rfl rfl); exact HR.out _ _ _ [] Takes.all ⟨rfl, rfl⟩)
        | some ps =>
          rw [hgp] at hgb
          simp only [Option.getD_some, Option.isSome_some, if_true] at hgb
          obtain ⟨hpb, hpk⟩ := getP_inv hgp
          obtain ⟨hs1, hs2⟩ := getP_small hgp
          repeat' (first | ((with_reducible apply kx_call (f := 14) (cap := [])); exact goesOf Try.func14 (by kernel_rfl) rfl; rfl; rfl; exact (hgb); (exact atks); rintro v' H' ⟨a7, c7, rfl, rfl⟩; all_goals ((try simp only [List.cons_append, List.nil_append]); (refine apk ?_))) | ((with_reducible apply sw_open (A := PostC 42 44 (.slice a7 ps.length c7) ps) (ι := List PZ) (B := fun Z => [PZC 42 44 (.slice a7 ps.length c7) Z]) (φ := fun Z => Z.map (·.1) = ps)); (with_reducible (exact atk)); (exact fun h ⟨Z, h1, h2⟩ => ⟨Z, h1, all_one.2 h2⟩); (rintro Z7 hZ7); (simp only [List.nil_append, List.cons_append])) | ((with_reducible apply sw_freezeT (A := PZC 42 44 (.slice a7 ps.length c7) Z7)); (with_reducible (exact atk)); intro r7 g7 hr7 hg7 hA7) | (refine aw0 ?_) | (refine ap2 ?_ ?_ <;> first | exact True.intro | intro h) | (refine aw1 ?_) | (refine abx ?_; intro bb) | (refine abz ?_; intro bz) | (refine ahv ?_; intro v' hv') | (refine aac ?_; intro ac cc) | (refine aw2 ?_) | (refine ap4 ?_ ?_ <;> first | exact True.intro | intro h) | (with_reducible refine tr_two ?_ ?_))
          obtain ⟨hx7, hP7⟩ := pzc_posts hA7 hg7 (show Z7.length = ps.length by rw [← hZ7, List.length_map])
          rw [hZ7] at hx7
          have hyl : (Z7.map pvZ).length = ps.length := by rw [List.length_map, ← hZ7, List.length_map]
          generalize Z7.map pvZ = ys at hx7 hP7 hyl
          have hpt := put_post_any r7 (.slice a7 ps.length c7) ys hP7 (fun x hx => Nat.le_trans (hs2 (unP x) (by rw [← hx7]; exact List.mem_map_of_mem hx)) (by omega)) (by omega)
          rw [hx7, show putE ps = (b, 0) by unfold putE; rw [hpk, if_pos rfl, hpb]] at hpt
          dsimp only at hpt
          have hsm := fun r v w hv hw => sameBytes_any r v w b b hv hw
          simp only [decide_true] at hsm
          repeat' (first | ((with_reducible apply kx_call (f := 13) (cap := [])); exact goesOf Try.func13 (by kernel_rfl) rfl; rfl; rfl; exact (hpt); (exact atks); rintro v' H' ⟨a8, c8, rfl, rfl⟩; all_goals ((try simp only [List.cons_append, List.nil_append]); (refine apk ?_))) | ((with_reducible apply kx_lendC (A := U8R (.slice a8 b.length c8) b)); (exact atk); intro rx gx hrx hgx hAx; ((with_reducible apply kx_call (f := 18) (cap := [])); exact goesOf Try.func18 (by kernel_rfl) rfl; rfl; rfl; exact (hsm rx _ _ (hAx.sl hgx) ((hvb.mono hr7).mono hrx)); (exact atks); rintro v' H' ⟨rfl, rfl⟩; all_goals ((try simp only [List.nil_append]); (refine apk ?_)))) | (exfalso; first | contradiction | omega) | (refine aw0 ?_) | (refine ap2 ?_ ?_ <;> first | exact True.intro | intro h) | (refine aw1 ?_) | (refine abx ?_; intro bb) | (refine abz ?_; intro bz) | (refine ahv ?_; intro v' hv') | (refine aac ?_; intro ac cc) | (refine aw2 ?_) | (refine ap4 ?_ ?_ <;> first | exact True.intro | intro h) | (with_reducible refine tr_two ?_ ?_))
          all_goals (((with_reducible apply fp_ret); exact res_1 rfl rfl); exact HR.out _ _ _ [] Takes.all ⟨rfl, rfl⟩)
      · rw [show putE (xs.map unP) = (putB (xs.map unP), 0) by unfold putE; rw [hok]; rfl] at hput
        dsimp only at hput
        have hBl : (putB (xs.map unP)).length ≤ 50000 := by
          have h1 := putB_24 (xs.map unP) (fun x hx => ⟨postsOk_mem hok x hx, by
            obtain ⟨y, hy, rfl⟩ := List.mem_map.1 hx
            have := (hxp y hy).2
            show y.pl.length ≤ 10000
            omega⟩)
          rw [sizeQ_un] at h1
          have h2 := septs_len6 (n := (xs.map unP).length) (by rw [List.length_map]; unfold maxNum; omega)
          unfold putB; rw [List.length_append]; omega
        have hgB : getP (putB (xs.map unP)) = some (xs.map unP) := getP_put hok (by unfold maxNum; omega)
        obtain ⟨B, hB⟩ : ∃ B, putB (xs.map unP) = B := ⟨_, rfl⟩
        obtain ⟨ps, hps⟩ : ∃ ps, xs.map unP = ps := ⟨_, rfl⟩
        rw [hB] at hput hBl hgB
        rw [hps] at hgB hok
        have hget := fun r v h => get_post_any r v B h (by omega)
        simp only [hgB, Option.getD_some, Option.isSome_some, if_true] at hget
        have hfr := fun r v h => from_post_any r v B gr d h (by omega)
        simp only [hgB, Option.getD_some, Option.isSome_some, if_true] at hfr
        clear hgB
        refine fn_of_sw Try.func4 rfl _ rfl ?_; simp only [Try.ntmps4, List.length_cons, List.length_nil, Nat.reduceAdd, Nat.reduceSub, List.replicate_succ, List.replicate_zero, List.nil_append, List.cons_append]
        refine sw_put (A := RowC 44 2 (.slice none 0 0) 0 []) (RowC.nil _ _) ?_
        repeat' (first | ((with_reducible apply kx_call (f := 11) (cap := [])); exact goesOf Try.func11 (by kernel_rfl) rfl; rfl; rfl; exact (awake19_any _); (exact atks); rintro v' H' ⟨rfl, rfl⟩; all_goals ((try simp only [List.nil_append]); (refine apk ?_))) | ((with_reducible apply kx_call (f := 12) (cap := [])); exact goesOf Try.func12 (by kernel_rfl) rfl; rfl; rfl; exact (hpo); (exact atks); rintro v' H' ⟨z, rfl, hz, rfl⟩; all_goals ((try simp only [List.nil_append]); (refine apk ?_))) | ((with_reducible apply kx_call (f := 13) (cap := [])); exact goesOf Try.func13 (by kernel_rfl) rfl; rfl; rfl; exact (hput); (exact atks); rintro v' H' ⟨a1, c1, rfl, rfl⟩; all_goals ((try simp only [List.cons_append, List.nil_append]); (refine apk ?_))) | ((with_reducible apply sw_freezeT (A := U8R (.slice a1 B.length c1) B)); (with_reducible (exact atk)); intro r2 g2 hr2 hg2 hA2) | ((with_reducible apply kx_call (f := 14) (cap := [])); exact goesOf Try.func14 (by kernel_rfl) rfl; rfl; rfl; exact (hget r2 _ (hA2.sl hg2)); (exact atks); rintro v' H' ⟨a3, c3, rfl, rfl⟩; all_goals ((try simp only [List.cons_append, List.nil_append]); (refine apk ?_))) | ((with_reducible apply sw_open (A := PostC 42 44 (.slice a3 ps.length c3) ps) (ι := List PZ) (B := fun Z => [PZC 42 44 (.slice a3 ps.length c3) Z]) (φ := fun Z => Z.map (·.1) = ps)); (with_reducible (exact atk)); (exact fun h ⟨Z, h1, h2⟩ => ⟨Z, h1, all_one.2 h2⟩); (rintro Z3 hZ3); (simp only [List.nil_append, List.cons_append])) | ((with_reducible apply sw_freezeT (A := PZC 42 44 (.slice a3 ps.length c3) Z3)); (with_reducible (exact atk)); intro r3 g3 hr3 hg3 hA3) | (exfalso; first | contradiction | omega) | (refine aw0 ?_) | (refine ap2 ?_ ?_ <;> first | exact True.intro | intro h) | (refine aw1 ?_) | (refine abx ?_; intro bb) | (refine abz ?_; intro bz) | (refine ahv ?_; intro v' hv') | (refine aac ?_; intro ac cc) | (refine aw2 ?_) | (refine ap4 ?_ ?_ <;> first | exact True.intro | intro h) | (with_reducible refine tr_two ?_ ?_))
        obtain ⟨hx3, hP3⟩ := pzc_posts hA3 hg3 (show Z3.length = ps.length by rw [← hZ3, List.length_map])
        rw [hZ3] at hx3
        generalize Z3.map pvZ = ys at hx3 hP3
        have hsp := samePostings_any r3 v _ xs ys ((hv.mono hr2).mono hr3) hP3
        rw [hps, hx3] at hsp
        simp only [decide_true] at hsp
        repeat' (first | ((with_reducible apply kx_call (f := 15) (cap := [])); exact goesOf Try.func15 (by kernel_rfl) rfl; rfl; rfl; exact (hsp); (exact atks); rintro v' H' ⟨rfl, rfl⟩; all_goals ((try simp only [List.nil_append]); (refine apk ?_))) | ((with_reducible apply kx_call (f := 16) (cap := [])); exact goesOf Try.func16 (by kernel_rfl) rfl; rfl; rfl; exact (hfr r3 _ ((hA2.sl hg2).mono hr3)); (exact atks); rintro v' H' ⟨pv, A, rfl, rfl, hpv⟩; all_goals ((try simp only [List.cons_append, List.nil_append]); (refine apk ?_))) | ((with_reducible apply sw_freezeT (A := A)); (with_reducible (exact atk)); intro r4 g4 hr4 hg4 hA4) | (exfalso; first | contradiction | omega) | (refine aw0 ?_) | (refine ap2 ?_ ?_ <;> first | exact True.intro | intro h) | (refine aw1 ?_) | (refine abx ?_; intro bb) | (refine abz ?_; intro bz) | (refine ahv ?_; intro v' hv') | (refine aac ?_; intro ac cc) | (refine aw2 ?_) | (refine ap4 ?_ ?_ <;> first | exact True.intro | intro h) | (with_reducible refine tr_two ?_ ?_))
        have hpe := hpv _ _ hA4 hg4
        have hv4 : Posts r4 v xs := ((hv.mono hr2).mono hr3).mono hr4
        have hve := hv4.1
        refine sw_loop (fun gm t H' => ∃ (k : Nat) (aw : Option Addr) (cw : Nat), gm = xs.length + 1 - k ∧ (k ≤ xs.length) ∧ (∃ G, Takes [RowC 44 2 (.slice aw (wantP (xs.take k) gr d).length cw) (wantP (xs.take k) gr d).length ((wantP (xs.take k) gr d).flatMap encPl)] H' G) ∧ (t.length = 144 ∧ t[0]? = some (v) ∧ t[1]? = some (vb) ∧ t[2]? = some (.string (bs gr)) ∧ t[3]? = some (.int .i64 d) ∧ t[13]? = some (pv) ∧ t[14]? = some (.int .i64 0) ∧ t[15]? = some (.slice aw (wantP (xs.take k) gr d).length cw) ∧ t[16]? = some (.int .i64 k))) _ ⟨0, none, 0, rfl, Nat.zero_le _, ⟨_, by (exact atks)⟩, rfl, (by first | rfl | exact congrArg some (congrArg (Value.int _) (by omega)) | exact congrArg some (congrArg (fun n => Value.slice _ n _) (by omega)) | (congr 2 <;> omega)), (by first | rfl | exact congrArg some (congrArg (Value.int _) (by omega)) | exact congrArg some (congrArg (fun n => Value.slice _ n _) (by omega)) | (congr 2 <;> omega)), (by first | rfl | exact congrArg some (congrArg (Value.int _) (by omega)) | exact congrArg some (congrArg (fun n => Value.slice _ n _) (by omega)) | (congr 2 <;> omega)), (by first | rfl | exact congrArg some (congrArg (Value.int _) (by omega)) | exact congrArg some (congrArg (fun n => Value.slice _ n _) (by omega)) | (congr 2 <;> omega)), (by first | rfl | exact congrArg some (congrArg (Value.int _) (by omega)) | exact congrArg some (congrArg (fun n => Value.slice _ n _) (by omega)) | (congr 2 <;> omega)), (by first | rfl | exact congrArg some (congrArg (Value.int _) (by omega)) | exact congrArg some (congrArg (fun n => Value.slice _ n _) (by omega)) | (congr 2 <;> omega)), (by first | rfl | exact congrArg some (congrArg (Value.int _) (by omega)) | exact congrArg some (congrArg (fun n => Value.slice _ n _) (by omega)) | (congr 2 <;> omega)), (by first | rfl | exact congrArg some (congrArg (Value.int _) (by omega)) | exact congrArg some (congrArg (fun n => Value.slice _ n _) (by omega)) | (congr 2 <;> omega))⟩ ?_
        rintro gm t H' ⟨k, aw, cw, rfl, hk, ⟨G, hp⟩, hlen, e0, e1, e2, e3, e13, e14, e15, e16⟩
        revert e0 e1 e2 e3 e13 e14 e15 e16; revert t; refine all_len (n := 144) ?_; iterate 144 intro uu'
        intro e0 e1 e2 e3 e13 e14 e15 e16; cases e0; cases e1; cases e2; cases e3; cases e13; cases e14; cases e15; cases e16
        refine sw_takeG hp ?_
        clear hp
        by_cases hlt : k < xs.length
        · have hWl : (wantP (xs.take k) gr d).length ≤ 1500 := Nat.le_trans (wantP_len _ _ _) (Nat.le_trans (sizeP_le xs k) hs)
          have hWn := wantP_snoc hlt gr d
          have hm := getD_mem hlt
          have hxe := hv4.2 _ hm
          have hxl := (hxp _ hm).2
          generalize (wantP (xs.take k) gr d) = W at hWl hWn ⊢
          repeat' (first | fail | (refine aw0 ?_) | (refine ap2 ?_ ?_ <;> first | exact True.intro | intro h) | (refine aw1 ?_) | (refine abx ?_; intro bb) | (refine abz ?_; intro bz) | (refine ahv ?_; intro v' hv') | (refine aac ?_; intro ac cc) | (refine aw2 ?_) | (refine ap4 ?_ ?_ <;> first | exact True.intro | intro h) | (with_reducible refine tr_two ?_ ?_))
          refine sw_loop (fun gm t H' => ∃ (i : Nat) (aw : Option Addr) (cw : Nat) (U : List PlaceV), gm = (xs.getD k default).pl.length + 1 - i ∧ (i ≤ (xs.getD k default).pl.length) ∧ (U = W ++ (((xs.getD k default).pl.take i).filter fun p => decide ((xs.getD k default).gram = gr) && decide (d ≤ p.doc))) ∧ (∃ G, Takes [RowC 44 2 (.slice aw U.length cw) U.length (U.flatMap encPl)] H' G) ∧ (t.length = 144 ∧ t[0]? = some (v) ∧ t[1]? = some (vb) ∧ t[2]? = some (.string (bs gr)) ∧ t[3]? = some (.int .i64 d) ∧ t[13]? = some (pv) ∧ t[14]? = some (.int .i64 0) ∧ t[15]? = some (.slice aw U.length cw) ∧ t[16]? = some (.int .i64 k) ∧ t[17]? = some (.int .i64 i))) _ ⟨0, aw, cw, W, rfl, Nat.zero_le _, by rw [List.take_zero, List.filter_nil, List.append_nil], ⟨_, by (exact atks)⟩, rfl, (by first | rfl | exact congrArg some (congrArg (Value.int _) (by omega)) | exact congrArg some (congrArg (fun n => Value.slice _ n _) (by omega)) | (congr 2 <;> omega)), (by first | rfl | exact congrArg some (congrArg (Value.int _) (by omega)) | exact congrArg some (congrArg (fun n => Value.slice _ n _) (by omega)) | (congr 2 <;> omega)), (by first | rfl | exact congrArg some (congrArg (Value.int _) (by omega)) | exact congrArg some (congrArg (fun n => Value.slice _ n _) (by omega)) | (congr 2 <;> omega)), (by first | rfl | exact congrArg some (congrArg (Value.int _) (by omega)) | exact congrArg some (congrArg (fun n => Value.slice _ n _) (by omega)) | (congr 2 <;> omega)), (by first | rfl | exact congrArg some (congrArg (Value.int _) (by omega)) | exact congrArg some (congrArg (fun n => Value.slice _ n _) (by omega)) | (congr 2 <;> omega)), (by first | rfl | exact congrArg some (congrArg (Value.int _) (by omega)) | exact congrArg some (congrArg (fun n => Value.slice _ n _) (by omega)) | (congr 2 <;> omega)), (by first | rfl | exact congrArg some (congrArg (Value.int _) (by omega)) | exact congrArg some (congrArg (fun n => Value.slice _ n _) (by omega)) | (congr 2 <;> omega)), (by first | rfl | exact congrArg some (congrArg (Value.int _) (by omega)) | exact congrArg some (congrArg (fun n => Value.slice _ n _) (by omega)) | (congr 2 <;> omega)), (by first | rfl | exact congrArg some (congrArg (Value.int _) (by omega)) | exact congrArg some (congrArg (fun n => Value.slice _ n _) (by omega)) | (congr 2 <;> omega))⟩ ?_
          rintro gm t H' ⟨i, aw, cw, U, rfl, hi, hU, ⟨G, hp⟩, hlen, e0, e1, e2, e3, e13, e14, e15, e16, e17⟩
          revert e0 e1 e2 e3 e13 e14 e15 e16 e17; revert t; refine all_len (n := 144) ?_; iterate 144 intro uu'
          intro e0 e1 e2 e3 e13 e14 e15 e16 e17; cases e0; cases e1; cases e2; cases e3; cases e13; cases e14; cases e15; cases e16; cases e17
          refine sw_takeG hp ?_
          clear hp
          have hUl : U.length ≤ 10000 := by
            have hVl : (((xs.getD k default).pl.take i).filter fun p => decide ((xs.getD k default).gram = gr) && decide (d ≤ p.doc)).length ≤ i := Nat.le_trans (List.length_filter_le _ _) (List.length_take_le _ _)
            rw [hU, List.length_append]; omega
          by_cases hlt2 : i < (xs.getD k default).pl.length
          · have hVn := filt_snoc hlt2 (fun p => decide ((xs.getD k default).gram = gr) && decide (d ≤ p.doc))
            obtain ⟨y, hy⟩ : ∃ y, (xs.getD k default).pl.getD i default = y := ⟨_, rfl⟩
            by_cases hq : (xs.getD k default).gram = gr ∧ d ≤ ((xs.getD k default).pl.getD i default).doc
            · rw [if_pos (by rw [decide_eq_true hq.1, decide_eq_true hq.2]; rfl)] at hVn
              have hne : U ++ [y] = W ++ ((xs.getD k default).pl.take (i + 1)).filter (fun p => decide ((xs.getD k default).gram = gr) && decide (d ≤ p.doc)) := by rw [hVn, hU, hy, List.append_assoc]
              have hq1 := hq.1
              have hq2 := hq.2
              repeat' (first | (first | ((with_reducible apply kx_bs1); exact ty_el; exact ty_inf; rfl; rfl; rfl; intro bz; (refine apk ?_)) | ((with_reducible apply kx_bsN); exact ty_el; exact ty_inf; rfl; rfl; rfl; intro bz; (refine apk ?_))) | (first | ((with_reducible apply kx_append1); exact ty_el; exact ty_inf; rfl; rfl; rfl; (exact atk); (exact atk); rfl; omega; intro a' c'; (refine apk ?_)) | ((with_reducible apply kx_appendN); exact ty_el; exact ty_inf; rfl; rfl; rfl; rfl; (exact atk); (exact atk); rfl; rfl; omega; intro a' c'; (refine apk ?_))) | (exfalso; first | contradiction | omega) | (refine aw0 ?_) | (refine ap2 ?_ ?_ <;> first | exact True.intro | intro h) | (refine aw1 ?_) | (refine abx ?_; intro bb) | (refine abz ?_; intro bz) | (refine ahv ?_; intro v' hv') | (refine aac ?_; intro ac cc) | (refine aw2 ?_) | (refine ap4 ?_ ?_ <;> first | exact True.intro | intro h) | (with_reducible refine tr_two ?_ ?_))
              rw [hy]
              have hUn : (U ++ [y]).length = U.length + 1 := by simp
              exact ⟨_, (by omega), i + 1, a', c', U ++ [y], rfl, by omega, hne, ⟨_, by rw [List.flatMap_append, List.length_append, show [y].flatMap encPl = encPl y by simp]; (exact atks)⟩, rfl, (by first | rfl | exact congrArg some (congrArg (Value.int _) (by omega)) | exact congrArg some (congrArg (fun n => Value.slice _ n _) (by omega)) | (congr 2 <;> omega)), (by first | rfl | exact congrArg some (congrArg (Value.int _) (by omega)) | exact congrArg some (congrArg (fun n => Value.slice _ n _) (by omega)) | (congr 2 <;> omega)), (by first | rfl | exact congrArg some (congrArg (Value.int _) (by omega)) | exact congrArg some (congrArg (fun n => Value.slice _ n _) (by omega)) | (congr 2 <;> omega)), (by first | rfl | exact congrArg some (congrArg (Value.int _) (by omega)) | exact congrArg some (congrArg (fun n => Value.slice _ n _) (by omega)) | (congr 2 <;> omega)), (by first | rfl | exact congrArg some (congrArg (Value.int _) (by omega)) | exact congrArg some (congrArg (fun n => Value.slice _ n _) (by omega)) | (congr 2 <;> omega)), (by first | rfl | exact congrArg some (congrArg (Value.int _) (by omega)) | exact congrArg some (congrArg (fun n => Value.slice _ n _) (by omega)) | (congr 2 <;> omega)), (by first | rfl | exact congrArg some (congrArg (Value.int _) (by omega)) | exact congrArg some (congrArg (fun n => Value.slice _ n _) (by omega)) | (congr 2 <;> omega)), (by first | rfl | exact congrArg some (congrArg (Value.int _) (by omega)) | exact congrArg some (congrArg (fun n => Value.slice _ n _) (by omega)) | (congr 2 <;> omega)), (by first | rfl | exact congrArg some (congrArg (Value.int _) (by omega)) | exact congrArg some (congrArg (fun n => Value.slice _ n _) (by omega)) | (congr 2 <;> omega))⟩
            · rw [if_neg (by intro h; rw [Bool.and_eq_true, decide_eq_true_eq, decide_eq_true_eq] at h; exact hq h), List.append_nil] at hVn
              repeat' (first | (exfalso; first | contradiction | omega | exact hq ⟨by assumption, by assumption⟩) | (refine aw0 ?_) | (refine ap2 ?_ ?_ <;> first | exact True.intro | intro h) | (refine aw1 ?_) | (refine abx ?_; intro bb) | (refine abz ?_; intro bz) | (refine ahv ?_; intro v' hv') | (refine aac ?_; intro ac cc) | (refine aw2 ?_) | (refine ap4 ?_ ?_ <;> first | exact True.intro | intro h) | (with_reducible refine tr_two ?_ ?_))
              all_goals exact ⟨_, (by omega), i + 1, aw, cw, U, rfl, by omega, by rw [hVn]; exact hU, ⟨_, by (exact atks)⟩, rfl, (by first | rfl | exact congrArg some (congrArg (Value.int _) (by omega)) | exact congrArg some (congrArg (fun n => Value.slice _ n _) (by omega)) | (congr 2 <;> omega)), (by first | rfl | exact congrArg some (congrArg (Value.int _) (by omega)) | exact congrArg some (congrArg (fun n => Value.slice _ n _) (by omega)) | (congr 2 <;> omega)), (by first | rfl | exact congrArg some (congrArg (Value.int _) (by omega)) | exact congrArg some (congrArg (fun n => Value.slice _ n _) (by omega)) | (congr 2 <;> omega)), (by first | rfl | exact congrArg some (congrArg (Value.int _) (by omega)) | exact congrArg some (congrArg (fun n => Value.slice _ n _) (by omega)) | (congr 2 <;> omega)), (by first | rfl | exact congrArg some (congrArg (Value.int _) (by omega)) | exact congrArg some (congrArg (fun n => Value.slice _ n _) (by omega)) | (congr 2 <;> omega)), (by first | rfl | exact congrArg some (congrArg (Value.int _) (by omega)) | exact congrArg some (congrArg (fun n => Value.slice _ n _) (by omega)) | (congr 2 <;> omega)), (by first | rfl | exact congrArg some (congrArg (Value.int _) (by omega)) | exact congrArg some (congrArg (fun n => Value.slice _ n _) (by omega)) | (congr 2 <;> omega)), (by first | rfl | exact congrArg some (congrArg (Value.int _) (by omega)) | exact congrArg some (congrArg (fun n => Value.slice _ n _) (by omega)) | (congr 2 <;> omega)), (by first | rfl | exact congrArg some (congrArg (Value.int _) (by omega)) | exact congrArg some (congrArg (fun n => Value.slice _ n _) (by omega)) | (congr 2 <;> omega))⟩
          · obtain rfl : i = (xs.getD k default).pl.length := by omega
            rw [List.take_length] at hU
            repeat' (first | (exfalso; first | contradiction | omega) | (refine aw0 ?_) | (refine ap2 ?_ ?_ <;> first | exact True.intro | intro h) | (refine aw1 ?_) | (refine abx ?_; intro bb) | (refine abz ?_; intro bz) | (refine ahv ?_; intro v' hv') | (refine aac ?_; intro ac cc) | (refine aw2 ?_) | (refine ap4 ?_ ?_ <;> first | exact True.intro | intro h) | (with_reducible refine tr_two ?_ ?_))
            have hUn : (wantP (xs.take (k + 1)) gr d).length = U.length := by rw [hWn, ← hU]
            exact ⟨_, (by omega), k + 1, aw, cw, rfl, by omega, ⟨_, by rw [hWn, ← hU]; (exact atks)⟩, rfl, (by first | rfl | exact congrArg some (congrArg (Value.int _) (by omega)) | exact congrArg some (congrArg (fun n => Value.slice _ n _) (by omega)) | (congr 2 <;> omega)), (by first | rfl | exact congrArg some (congrArg (Value.int _) (by omega)) | exact congrArg some (congrArg (fun n => Value.slice _ n _) (by omega)) | (congr 2 <;> omega)), (by first | rfl | exact congrArg some (congrArg (Value.int _) (by omega)) | exact congrArg some (congrArg (fun n => Value.slice _ n _) (by omega)) | (congr 2 <;> omega)), (by first | rfl | exact congrArg some (congrArg (Value.int _) (by omega)) | exact congrArg some (congrArg (fun n => Value.slice _ n _) (by omega)) | (congr 2 <;> omega)), (by first | rfl | exact congrArg some (congrArg (Value.int _) (by omega)) | exact congrArg some (congrArg (fun n => Value.slice _ n _) (by omega)) | (congr 2 <;> omega)), (by first | rfl | exact congrArg some (congrArg (Value.int _) (by omega)) | exact congrArg some (congrArg (fun n => Value.slice _ n _) (by omega)) | (congr 2 <;> omega)), (by first | rfl | exact congrArg some (congrArg (Value.int _) (by omega)) | exact congrArg some (congrArg (fun n => Value.slice _ n _) (by omega)) | (congr 2 <;> omega)), (by first | rfl | exact congrArg some (congrArg (Value.int _) (by omega)) | exact congrArg some (congrArg (fun n => Value.slice _ n _) (by omega)) | (congr 2 <;> omega))⟩
        · obtain rfl : k = xs.length := by omega
          rw [List.take_length, wantP_eq, hps]
          have hsame := fun rx w hr hw => same19_any rx pv w (fromP ps gr d) (fromP ps gr d) (hpe.mono hr) hw
          simp only [decide_true] at hsame
          repeat' (first | ((with_reducible apply kx_lendC (A := RowC 44 2 (.slice aw (fromP ps gr d).length cw) (fromP ps gr d).length ((fromP ps gr d).flatMap encPl))); (exact atk); intro rx gx hrx hgx hAx; ((with_reducible apply kx_call (f := 17) (cap := [])); exact goesOf Try.func17 (by kernel_rfl) rfl; rfl; rfl; exact (hsame rx _ hrx ⟨fun _ => rfl, hAx.sl hgx⟩); (exact atks); rintro v' H' ⟨rfl, rfl⟩; all_goals ((try simp only [List.nil_append]); (refine apk ?_)))) | (exfalso; first | contradiction | omega) | (refine aw0 ?_) | (refine ap2 ?_ ?_ <;> first | exact True.intro | intro h) | (refine aw1 ?_) | (refine abx ?_; intro bb) | (refine abz ?_; intro bz) | (refine ahv ?_; intro v' hv') | (refine aac ?_; intro ac cc) | (refine aw2 ?_) | (refine ap4 ?_ ?_ <;> first | exact True.intro | intro h) | (with_reducible refine tr_two ?_ ?_))
          clear hsame hpe hv4 hve hsp hx3 hP3 hfr hget hput
          have hgb := get_post_any r2 vb b (hvb.mono hr2) (by omega)
          cases hgp : getP b with
          | none =>
            rw [hgp] at hgb
            simp only [Option.getD_none, Option.isSome_none, List.length_nil] at hgb
            repeat' (first | ((with_reducible apply kx_call (f := 14) (cap := [])); exact goesOf Try.func14 (by kernel_rfl) rfl; rfl; rfl; exact (hgb); (exact atks); rintro v' H' ⟨a7, c7, rfl, rfl⟩; all_goals ((try simp only [List.cons_append, List.nil_append]); (refine apk ?_))) | ((with_reducible apply sw_open (A := PostC 42 44 (.slice a7 0 c7) []) (ι := List PZ) (B := fun Z => [PZC 42 44 (.slice a7 0 c7) Z]) (φ := fun Z => Z.map (·.1) = [])); (with_reducible (exact atk)); (exact fun h ⟨Z, h1, h2⟩ => ⟨Z, h1, all_one.2 h2⟩); (rintro Z7 hZ7); (simp only [List.nil_append, List.cons_append])) | ((with_reducible apply sw_freezeT (A := PZC 42 44 (.slice a7 0 c7) Z7)); (with_reducible (exact atk)); intro r7 g7 hr7 hg7 hA7) | (refine aw0 ?_) | (refine ap2 ?_ ?_ <;> first | exact True.intro | intro h) | (refine aw1 ?_) | (refine abx ?_; intro bb) | (refine abz ?_; intro bz) | (refine ahv ?_; intro v' hv') | (refine aac ?_; intro ac cc) | (refine aw2 ?_) | (refine ap4 ?_ ?_ <;> first | exact True.intro | intro h) | (with_reducible refine tr_two ?_ ?_))
            obtain ⟨hx7, hP7⟩ := pzc_posts hA7 hg7 (show Z7.length = 0 by have h := congrArg List.length hZ7; rwa [List.length_map] at h)
            rw [hZ7] at hx7
            generalize Z7.map pvZ = ys at hx7 hP7
            obtain rfl : ys = [] := List.map_eq_nil_iff.1 hx7
            have hpt := put_post_any r7 (.slice a7 0 c7) [] hP7 (fun x hx => by cases hx) (by simp)
            repeat' (first | ((with_reducible apply kx_call (f := 13) (cap := [])); exact goesOf Try.func13 (by kernel_rfl) rfl; rfl; rfl; exact (hpt); (exact atks); rintro v' H' ⟨a8, c8, rfl, rfl⟩; all_goals ((try simp only [List.cons_append, List.nil_append]); (refine apk ?_))) | (exfalso; first | contradiction | omega) | (refine aw0 ?_) | (refine ap2 ?_ ?_ <;> first | exact True.intro | intro h) | (refine aw1 ?_) | (refine abx ?_; intro bb) | (refine abz ?_; intro bz) | (refine ahv ?_; intro v' hv') | (refine aac ?_; intro ac cc) | (refine aw2 ?_) | (refine ap4 ?_ ?_ <;> first | exact True.intro | intro h) | (with_reducible refine tr_two ?_ ?_))
            all_goals (((with_reducible apply fp_ret); exact res_1 rfl rfl); exact HR.out _ _ _ [] Takes.all ⟨rfl, rfl⟩)
          | some ps =>
            rw [hgp] at hgb
            simp only [Option.getD_some, Option.isSome_some, if_true] at hgb
            obtain ⟨hpb, hpk⟩ := getP_inv hgp
            obtain ⟨hs1, hs2⟩ := getP_small hgp
            repeat' (first | ((with_reducible apply kx_call (f := 14) (cap := [])); exact goesOf Try.func14 (by kernel_rfl) rfl; rfl; rfl; exact (hgb); (exact atks); rintro v' H' ⟨a7, c7, rfl, rfl⟩; all_goals ((try simp only [List.cons_append, List.nil_append]); (refine apk ?_))) | ((with_reducible apply sw_open (A := PostC 42 44 (.slice a7 ps.length c7) ps) (ι := List PZ) (B := fun Z => [PZC 42 44 (.slice a7 ps.length c7) Z]) (φ := fun Z => Z.map (·.1) = ps)); (with_reducible (exact atk)); (exact fun h ⟨Z, h1, h2⟩ => ⟨Z, h1, all_one.2 h2⟩); (rintro Z7 hZ7); (simp only [List.nil_append, List.cons_append])) | ((with_reducible apply sw_freezeT (A := PZC 42 44 (.slice a7 ps.length c7) Z7)); (with_reducible (exact atk)); intro r7 g7 hr7 hg7 hA7) | (refine aw0 ?_) | (refine ap2 ?_ ?_ <;> first | exact True.intro | intro h) | (refine aw1 ?_) | (refine abx ?_; intro bb) | (refine abz ?_; intro bz) | (refine ahv ?_; intro v' hv') | (refine aac ?_; intro ac cc) | (refine aw2 ?_) | (refine ap4 ?_ ?_ <;> first | exact True.intro | intro h) | (with_reducible refine tr_two ?_ ?_))
            obtain ⟨hx7, hP7⟩ := pzc_posts hA7 hg7 (show Z7.length = ps.length by rw [← hZ7, List.length_map])
            rw [hZ7] at hx7
            have hyl : (Z7.map pvZ).length = ps.length := by rw [List.length_map, ← hZ7, List.length_map]
            generalize Z7.map pvZ = ys at hx7 hP7 hyl
            have hpt := put_post_any r7 (.slice a7 ps.length c7) ys hP7 (fun x hx => Nat.le_trans (hs2 (unP x) (by rw [← hx7]; exact List.mem_map_of_mem hx)) (by omega)) (by omega)
            rw [hx7, show putE ps = (b, 0) by unfold putE; rw [hpk, if_pos rfl, hpb]] at hpt
            dsimp only at hpt
            have hsm := fun r v w hv hw => sameBytes_any r v w b b hv hw
            simp only [decide_true] at hsm
            repeat' (first | ((with_reducible apply kx_call (f := 13) (cap := [])); exact goesOf Try.func13 (by kernel_rfl) rfl; rfl; rfl; exact (hpt); (exact atks); rintro v' H' ⟨a8, c8, rfl, rfl⟩; all_goals ((try simp only [List.cons_append, List.nil_append]); (refine apk ?_))) | ((with_reducible apply kx_lendC (A := U8R (.slice a8 b.length c8) b)); (exact atk); intro rx gx hrx hgx hAx; ((with_reducible apply kx_call (f := 18) (cap := [])); exact goesOf Try.func18 (by kernel_rfl) rfl; rfl; rfl; exact (hsm rx _ _ (hAx.sl hgx) (((hvb.mono hr2).mono hr7).mono hrx)); (exact atks); rintro v' H' ⟨rfl, rfl⟩; all_goals ((try simp only [List.nil_append]); (refine apk ?_)))) | (exfalso; first | contradiction | omega) | (refine aw0 ?_) | (refine ap2 ?_ ?_ <;> first | exact True.intro | intro h) | (refine aw1 ?_) | (refine abx ?_; intro bb) | (refine abz ?_; intro bz) | (refine ahv ?_; intro v' hv') | (refine aac ?_; intro ac cc) | (refine aw2 ?_) | (refine ap4 ?_ ?_ <;> first | exact True.intro | intro h) | (with_reducible refine tr_two ?_ ?_))
            all_goals (((with_reducible apply fp_ret); exact res_1 rfl rfl); exact HR.out _ _ _ [] Takes.all ⟨rfl, rfl⟩)
    · refine fn_of_sw Try.func4 rfl _ rfl ?_; simp only [Try.ntmps4, List.length_cons, List.length_nil, Nat.reduceAdd, Nat.reduceSub, List.replicate_succ, List.replicate_zero, List.nil_append, List.cons_append]
      repeat' (first | ((with_reducible apply kx_call (f := 11) (cap := [])); exact goesOf Try.func11 (by kernel_rfl) rfl; rfl; rfl; exact (awake19_any _); (exact atks); rintro v' H' ⟨rfl, rfl⟩; all_goals ((try simp only [List.nil_append]); (refine apk ?_))) | ((with_reducible apply kx_call (f := 12) (cap := [])); exact goesOf Try.func12 (by kernel_rfl) rfl; rfl; rfl; exact (hpo); (exact atks); rintro v' H' ⟨z, rfl, hz, rfl⟩; all_goals ((try simp only [List.nil_append]); (refine apk ?_))) | (exfalso; first | contradiction | omega) | (refine aw0 ?_) | (refine ap2 ?_ ?_ <;> first | exact True.intro | intro h) | (refine aw1 ?_) | (refine abx ?_; intro bb) | (refine abz ?_; intro bz) | (refine ahv ?_; intro v' hv') | (refine aac ?_; intro ac cc) | (refine aw2 ?_) | (refine ap4 ?_ ?_ <;> first | exact True.intro | intro h) | (with_reducible refine tr_two ?_ ?_))
      all_goals (((with_reducible apply fp_ret); exact res_1 rfl rfl); exact HR.out _ _ _ [] Takes.all ⟨rfl, rfl⟩)
  · refine fn_of_sw Try.func4 rfl _ rfl ?_; simp only [Try.ntmps4, List.length_cons, List.length_nil, Nat.reduceAdd, Nat.reduceSub, List.replicate_succ, List.replicate_zero, List.nil_append, List.cons_append]
    repeat' (first | ((with_reducible apply kx_call (f := 11) (cap := [])); exact goesOf Try.func11 (by kernel_rfl) rfl; rfl; rfl; exact (awake19_any _); (exact atks); rintro v' H' ⟨rfl, rfl⟩; all_goals ((try simp only [List.nil_append]); (refine apk ?_))) | ((with_reducible apply kx_call (f := 12) (cap := [])); exact goesOf Try.func12 (by kernel_rfl) rfl; rfl; rfl; exact (hpo); (exact atks); rintro v' H' ⟨z, rfl, hz, rfl⟩; all_goals ((try simp only [List.nil_append]); (refine apk ?_))) | (exfalso; first | contradiction | omega) | (refine aw0 ?_) | (refine ap2 ?_ ?_ <;> first | exact True.intro | intro h) | (refine aw1 ?_) | (refine abx ?_; intro bb) | (refine abz ?_; intro bz) | (refine ahv ?_; intro v' hv') | (refine aac ?_; intro ac cc) | (refine aw2 ?_) | (refine ap4 ?_ ?_ <;> first | exact True.intro | intro h) | (with_reducible refine tr_two ?_ ?_))
    all_goals (((with_reducible apply fp_ret); exact res_1 rfl rfl); exact HR.out _ _ _ [] Takes.all ⟨rfl, rfl⟩)
end Go.Proofs.Ytkbajhiahpkgiaa
