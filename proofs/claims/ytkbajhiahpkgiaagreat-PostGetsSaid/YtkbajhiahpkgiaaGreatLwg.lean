
/- mudlarklaw19.PostGets: its contract. -/
import Derived.Test.YtkbajhiahpkgiaaGreatAo
import Derived.Test.YtkbajhiahpkgiaaGreatQi
import Derived.Test.YtkbajhiahpkgiaaGreatFg
import Derived.Test.YtkbajhiahpkgiaaGreatAx
import Derived.Test.YtkbajhiahpkgiaaGreatKw
namespace Go.Proofs.YtkbajhiahpkgiaaGreat
open Go.RowKit Sx

theorem getP_most {b : List UInt8} (h : b.length ≤ 1500) : ((getP b).getD []).length ≤ 1500 ∧ (∀ x ∈ (getP b).getD [], x.2.length ≤ 1500) := by
  cases hp : getP b with
  | none => exact ⟨Nat.zero_le _, fun x hx => by cases hx⟩
  | some ps =>
    obtain ⟨h1, h2⟩ := getP_small hp
    exact ⟨by show ps.length ≤ _; omega, fun x hx => by have := h2 x hx; omega⟩
theorem sizeQ_most : ∀ (ps : List PostP) (m : Nat), (∀ x ∈ ps, x.1.length + x.2.length ≤ m) → sizeQ ps ≤ ps.length * (m + 1)
  | [], _, _ => Nat.zero_le _
  | x :: ps, m, h => by
    have ih := sizeQ_most ps m fun y hy => h y (List.mem_cons_of_mem _ hy)
    have h1 := h x List.mem_cons_self
    unfold sizeQ at ih ⊢
    rw [List.map_cons, List.sum_cons, List.length_cons, Nat.succ_mul]
    omega
theorem getP_sizeQ {b : List UInt8} (h : b.length ≤ 1500) : sizeQ ((getP b).getD []) ≤ 10000000 := by
  cases hp : getP b with
  | none => exact Nat.zero_le _
  | some ps =>
    obtain ⟨h1, h2⟩ := getP_small hp
    have hok := (getP_inv hp).2
    have h3 := sizeQ_most ps 1503 fun x hx => by
      have h4 := postsOk_mem hok x hx
      have h5 := h2 x hx
      unfold postOk at h4
      simp only [Bool.and_eq_true, decide_eq_true_eq] at h4
      omega
    have h6 : ps.length * (1503 + 1) ≤ 1500 * (1503 + 1) := Nat.mul_le_mul_right _ (by omega)
    show sizeQ ps ≤ _
    omega
set_option maxRecDepth 10000 in
set_option maxHeartbeats 8000000 in
theorem postGets_any (r : Hp) (v : Value) (b gr : List UInt8) (d : Int) (hv : U8S r v b) (hl : b.length ≤ 140737488351232) : Tri Tryz.prog r 4 [v, .string (bs gr), .int .i64 d] [] fun w H => w = .bool true ∧ H = [] := by
  refine Tri.free2 fun R HR => ?_
  by_cases hb : b.length ≤ 1500
  · obtain ⟨hp1, hp2⟩ := getP_most hb
    have hlb := lentBytes_any r v b hv (by omega)
    refine fn_of_sw Tryz.func4 rfl _ rfl ?_; refine aen Tryz.ntmps4 ?_
    repeat' (first | (refine acl Tryz.func15 ?_; refine acr (hlb) ?_; rintro v' H' ⟨a1, c1, rfl, rfl⟩; all_goals refine apl ?_) | ((with_reducible apply sw_freezeT (A := RowC 5 1 (.slice a1 (b.length + 12) c1) (b.length + 12) (u8s (b ++ marksL 12)))); (with_reducible (exact atk)); intro r1 g1 hr1 hg1 hA1) | (exfalso; first | contradiction | omega) | refine aw0 ?_ | (refine ap2 ?_ ?_ <;> try intro h) | refine aw1 ?_ | (refine abx ?_; intro bb) | (refine abz ?_; intro bz) | (refine ahv ?_; intro v' hv') | (refine aac ?_; intro ac cc) | refine aw2 ?_ | (refine ap4 ?_ ?_ <;> try intro h) | apply True.intro)
    have hw1 := Wide.of hA1 hg1
    have hkb := keptW_any r1 _ v b hw1 (hv.mono hr1)
    have hg1' := fun r' (hr : sub r1 r') => get_post_any r' _ b (hw1.sl.mono hr) (by omega)
    have hg2' := fun r' (hr : sub r1 r') => rget19_any r' v b ((hv.mono hr1).mono hr) (by omega)
    have hf1' := fun r' (hr : sub r1 r') => from_post_any r' _ b gr d (hw1.sl.mono hr) (by omega)
    have hf2' := fun r' (hr : sub r1 r') => rfrom_any r' v gr d _ _ (hg2' r' hr) (getP_sizeQ hb)
    generalize (getP b).getD [] = ps at hp1 hp2 hg1' hg2' hf1' hf2'
    generalize (if (getP b).isSome = true then (0 : Int) else 9) = e at hg1' hg2' hf1' hf2'
    generalize fromP ps gr d = W at hf1' hf2'
    repeat' (first | (refine acl Tryz.func16 ?_; refine acr (hg1' r1 (fun _ _ h => h)) ?_; rintro v' H' ⟨a2, c2, rfl, rfl⟩; all_goals refine apl ?_) | ((with_reducible apply sw_open (A := PostC 53 56 (.slice a2 ps.length c2) ps) (ι := List PZ) (B := fun Z => [PZC 53 56 (.slice a2 ps.length c2) Z]) (φ := fun Z => Z.map (·.1) = ps)); (with_reducible (exact atk)); (exact fun h ⟨Z, h1, h2⟩ => ⟨Z, h1, all_one.2 h2⟩); (rintro Z2 hZ2); (simp only [List.nil_append, List.cons_append])) | (exfalso; first | contradiction | omega) | refine aw0 ?_ | (refine ap2 ?_ ?_ <;> try intro h) | refine aw1 ?_ | (refine abx ?_; intro bb) | (refine abz ?_; intro bz) | (refine ahv ?_; intro v' hv') | (refine aac ?_; intro ac cc) | refine aw2 ?_ | (refine ap4 ?_ ?_ <;> try intro h) | apply True.intro)
    repeat' (first | (refine acl Tryz.func17 ?_; refine acr (hg2' r1 (fun _ _ h => h)) ?_; rintro v' H' ⟨a3, c3, rfl, rfl⟩; all_goals refine apl ?_) | ((with_reducible apply sw_open (A := PostC 53 56 (.slice a3 ps.length c3) ps) (ι := List PZ) (B := fun Z => [PZC 53 56 (.slice a3 ps.length c3) Z]) (φ := fun Z => Z.map (·.1) = ps)); (with_reducible (exact atk)); (exact fun h ⟨Z, h1, h2⟩ => ⟨Z, h1, all_one.2 h2⟩); (rintro Z3 hZ3); (simp only [List.nil_append, List.cons_append])) | ((with_reducible apply sw_freezeT (A := PZC 53 56 (.slice a3 ps.length c3) Z3)); (with_reducible (exact atk)); intro r3 g3 hr3 hg3 hA3) | (exfalso; first | contradiction | omega) | refine aw0 ?_ | (refine ap2 ?_ ?_ <;> try intro h) | refine aw1 ?_ | (refine abx ?_; intro bb) | (refine abz ?_; intro bz) | (refine ahv ?_; intro v' hv') | (refine aac ?_; intro ac cc) | refine aw2 ?_ | (refine ap4 ?_ ?_ <;> try intro h) | apply True.intro)
    obtain ⟨hx3, hP3⟩ := pzc_posts hA3 hg3 (show Z3.length = ps.length by rw [← hZ3, List.length_map])
    rw [hZ3] at hx3
    repeat' (first | (refine acl Tryz.func16 ?_; refine acr (hg1' r3 hr3) ?_; rintro v' H' ⟨a4, c4, rfl, rfl⟩; all_goals refine apl ?_) | ((with_reducible apply sw_open (A := PostC 53 56 (.slice a4 ps.length c4) ps) (ι := List PZ) (B := fun Z => [PZC 53 56 (.slice a4 ps.length c4) Z]) (φ := fun Z => Z.map (·.1) = ps)); (with_reducible (exact atk)); (exact fun h ⟨Z, h1, h2⟩ => ⟨Z, h1, all_one.2 h2⟩); (rintro Z4 hZ4); (simp only [List.nil_append, List.cons_append])) | (refine acl Tryz.func18 ?_; refine acr (hf1' r3 hr3) ?_; rintro v' H' ⟨pv, A, rfl, rfl, hpv⟩; all_goals refine apl ?_) | ((with_reducible apply sw_freezeT (A := A)); (with_reducible (exact atk)); intro r4 g4 hr4 hg4 hA4; have hpe := hpv _ _ hA4 hg4; clear hpv) | (refine acl Tryz.func19 ?_; refine acr (hf2' r4 (fun b o h => hr4 b o (hr3 b o h))) ?_; rintro v' H' ⟨a5, c5, rfl, rfl⟩; all_goals refine apl ?_) | ((with_reducible apply sw_freezeT (A := RowC 56 2 (.slice a5 W.length c5) W.length (W.flatMap encPl))); (with_reducible (exact atk)); intro r5 g5 hr5 hg5 hA5) | (exfalso; first | contradiction | omega) | refine aw0 ?_ | (refine ap2 ?_ ?_ <;> try intro h) | refine aw1 ?_ | (refine abx ?_; intro bb) | (refine abz ?_; intro bz) | (refine ahv ?_; intro v' hv') | (refine aac ?_; intro ac cc) | refine aw2 ?_ | (refine ap4 ?_ ?_ <;> try intro h) | apply True.intro)
    have h35 : sub r3 r5 := fun b o h => hr5 b o (hr4 b o h)
    have h15 : sub r1 r5 := fun b o h => h35 b o (hr3 b o h)
    have hl2 : Z2.length = ps.length := by rw [← hZ2, List.length_map]
    have hl4 : Z4.length = ps.length := by rw [← hZ4, List.length_map]
    have hsp := fun rx gx (hs : sub r5 rx) (hA : PZC 53 56 (.slice a2 ps.length c2) Z2 gx) (hg : sub gx rx) => samePostings_any rx _ _ _ _ (pzc_posts hA hg hl2).2 ((hP3.mono h35).mono hs)
    rw [hx3, pvZ_un, hZ2] at hsp
    simp only [decide_true] at hsp
    have hsm := same19_any r5 pv (.slice a5 W.length c5) W W (hpe.mono hr5) ⟨fun _ => rfl, hA5.sl hg5⟩
    simp only [decide_true] at hsm
    have hkb5 := keptW_any r5 _ v b (hw1.mono h15) ((hv.mono hr1).mono h15)
    have hap := fun r v h => apartPostings_any r v a2 a4 c2 c4 Z2 Z4 h (by omega) (by omega) (fun z hz => by
      have h1 : z.1 ∈ ps := by
        rcases List.mem_append.1 hz with h | h
        · rw [← hZ2]; exact List.mem_map_of_mem h
        · rw [← hZ4]; exact List.mem_map_of_mem h
      have := hp2 _ h1
      omega)
    rw [hl2, hl4] at hap
    repeat' (first | ((with_reducible apply kx_lendC (A := PZC 53 56 (.slice a2 ps.length c2) Z2)); (exact atk); intro rx gx hrx hgx hAx; (refine acl Tryz.func11 ?_; refine acr (hsp rx gx hrx hAx hgx) ?_; rintro v' H' ⟨rfl, rfl⟩; all_goals refine apl ?_)) | (refine acl Tryz.func20 ?_; refine acr (hsm) ?_; rintro v' H' ⟨rfl, rfl⟩; all_goals refine apl ?_) | (refine acl Tryz.func21 ?_; refine acr (hkb5) ?_; rintro v' H' ⟨rfl, rfl⟩; all_goals refine apl ?_) | ((with_reducible apply kx_lend [(bz, .cells [.slice a2 ps.length c2, .slice a4 ps.length c4].toArray 26 (0, 0))]); (exact atks); intro r' hl'; refine acl Tryz.func14 ?_; refine acr (hap _ _ (Sl.lit (n := 2) (Lent.h1 hl') rfl (by simp [maxLen]))) ?_; rintro v' H' ⟨rfl, rfl⟩; all_goals refine apm ?_) | (refine acl Tryz.func8 ?_; refine acr (awake19_any _) ?_; rintro v' H' ⟨rfl, rfl⟩; all_goals refine apl ?_) | (exfalso; first | contradiction | omega) | refine aw0 ?_ | (refine ap2 ?_ ?_ <;> try intro h) | refine aw1 ?_ | (refine abx ?_; intro bb) | (refine abz ?_; intro bz) | (refine ahv ?_; intro v' hv') | (refine aac ?_; intro ac cc) | refine aw2 ?_ | (refine ap4 ?_ ?_ <;> try intro h) | apply True.intro)
    ((with_reducible apply fp_ret); exact res_1 rfl rfl)
    exact HR.out _ _ _ [] Takes.all ⟨rfl, rfl⟩
  · refine fn_of_sw Tryz.func4 rfl _ rfl ?_; refine aen Tryz.ntmps4 ?_
    repeat' (first | (refine acl Tryz.func8 ?_; refine acr (awake19_any _) ?_; rintro v' H' ⟨rfl, rfl⟩; all_goals refine apl ?_) | (exfalso; first | contradiction | omega) | refine aw0 ?_ | (refine ap2 ?_ ?_ <;> try intro h) | refine aw1 ?_ | (refine abx ?_; intro bb) | (refine abz ?_; intro bz) | (refine ahv ?_; intro v' hv') | (refine aac ?_; intro ac cc) | refine aw2 ?_ | (refine ap4 ?_ ?_ <;> try intro h) | apply True.intro)
    all_goals (((with_reducible apply fp_ret); exact res_1 rfl rfl); exact HR.out _ _ _ [] Takes.all ⟨rfl, rfl⟩)
end Go.Proofs.YtkbajhiahpkgiaaGreat
