/- mudlarklaw19.awake: its contract. -/
import Derived.Test.YtkbajhiahpkgiaaAw
import Derived.Test.YtkbajhiahpkgiaaFr
import Derived.Test.YtkbajhiahpkgiaaSm
import Derived.Test.YtkbajhiahpkgiaaMs
import Derived.Test.YtkbajhiahpkgiaaPj
namespace Go.Proofs.Ytkbajhiahpkgiaa
open Go.RowKit Sx

def ps19 : List PostP := [([97, 98, 97], [⟨0, 0⟩]), ([98, 97, 98], [⟨0, 1⟩])]
def bs19 : List UInt8 := [2, 8, 97, 98, 97, 1, 0, 2, 0, 0, 8, 98, 97, 98, 1, 0, 2, 0, 1]
theorem make19 : makeP [[97, 98, 97, 98]] = ps19 := by
  unfold makeP
  rw [show grams (occs [[97, 98, 97, 98]] ([[97, 98, 97, 98]] : List (List UInt8)).length) = ps19 by kernel_rfl]
  have h : (ps19.map (·.1)).mergeSort leB = ps19.map (·.1) := by
    refine List.mergeSort_of_pairwise ?_
    unfold ps19
    simp [leB]
    all_goals decide
  rw [h]
  rfl
theorem put19 : putB ps19 = bs19 := by
  unfold putB ps19
  simp only [List.flatMap_cons, List.flatMap_nil, postB, chunks_vs _ _ (Nat.le_refl _)]
  kernel_rfl
theorem get19 : getP bs19 = some ps19 := by
  have h := getP_put (ps := ps19) (by kernel_rfl) (by rw [put19]; decide)
  rwa [put19] at h
def ab19 : List UInt8 := [97, 98, 97, 98]
set_option maxRecDepth 10000 in
set_option maxHeartbeats 4000000 in
theorem awake19_any (r : Hp) : Tri Try.prog r 11 [] [] fun w H => w = .bool true ∧ H = [] := by
  refine Tri.free2 fun R HR => ?_
  refine fn_of_sw Try.func11 rfl _ rfl ?_; simp only [Try.ntmps11, List.length_nil, Nat.reduceSub, List.replicate_succ, List.replicate_zero, List.nil_append]
  repeat' (first | ((with_reducible apply kx_mark); exact ty_el; kernel_rfl; rfl; (exact atk); (refine apk ?_)) | (refine aw0 ?_) | (refine ap2 ?_ ?_ <;> first | exact True.intro | intro h) | (refine aw1 ?_) | (refine abx ?_; intro bb) | (refine abz ?_; intro bz) | (refine ahv ?_; intro v' hv') | (refine aac ?_; intro ac cc) | (refine aw2 ?_) | (refine ap4 ?_ ?_ <;> first | exact True.intro | intro h) | (with_reducible refine tr_two ?_ ?_))
  revert bz
  revert bz
  intro by0 bz
  have hmk := fun r' (h1 : r' bz = some (.cells [.slice (some ⟨by0, 0, none⟩) 4 4].toArray 30 (0, 0))) (h2 : r' by0 = some (.cells [.int .u8 97, .int .u8 98, .int .u8 97, .int .u8 98].toArray 5 (4, 5))) => make_any r' (.slice (some ⟨bz, 0, none⟩) 1 1) [⟨.slice (some ⟨by0, 0, none⟩) 4 4, ab19⟩] ⟨⟨fun _ => rfl, Sl.lit h1 rfl (by simp [maxLen])⟩, fun x hx => by obtain rfl := List.mem_singleton.1 hx; exact Sl.lit h2 rfl (by simp [maxLen])⟩ (by simp) (by show 0 + 4 ≤ 10000000; omega)
  simp only [List.map_cons, List.map_nil, show ab19 = [97, 98, 97, 98] from rfl, make19] at hmk
  repeat' (first | ((with_reducible apply kx_lend [(bz, .cells [.slice (some ⟨by0, 0, none⟩) 4 4].toArray 30 (0, 0)), (by0, .cells [.int .u8 97, .int .u8 98, .int .u8 97, .int .u8 98].toArray 5 (4, 5))]); (exact atks); intro r' hl'; (with_reducible apply kx_call (f := 20) (cap := [])); exact goesOf Try.func20 (by kernel_rfl) rfl; rfl; rfl; exact (hmk _ (Lent.h1 hl') (Lent.h2 hl')); (exact atks); rintro v' H' ⟨a, c, rfl, rfl⟩; all_goals ((try simp only [pts, List.map_cons, List.map_nil, List.cons_append, List.nil_append]); (refine apk ?_))) | ((with_reducible apply sw_open (A := PostC 42 44 (.slice a ps19.length c) ps19) (ι := List PZ) (B := fun Z => [PZC 42 44 (.slice a ps19.length c) Z]) (φ := fun Z => Z.map (·.1) = ps19)); (with_reducible (exact atk)); (exact fun h ⟨Z, h1, h2⟩ => ⟨Z, h1, all_one.2 h2⟩); (rintro Z hZ); (simp only [List.nil_append, List.cons_append])) | ((with_reducible apply sw_freezeT (A := PZC 42 44 (.slice a ps19.length c) Z)); (with_reducible (exact atk)); intro r1 g1 hr1 hg1 hA1) | (refine aw0 ?_) | (refine ap2 ?_ ?_ <;> first | exact True.intro | intro h) | (refine aw1 ?_) | (refine abx ?_; intro bb) | (refine abz ?_; intro bz) | (refine ahv ?_; intro v' hv') | (refine aac ?_; intro ac cc) | (refine aw2 ?_) | (refine ap4 ?_ ?_ <;> first | exact True.intro | intro h) | (with_reducible refine tr_two ?_ ?_))
  obtain ⟨hx1, hP⟩ := pzc_posts hA1 hg1 (show Z.length = ps19.length by rw [← hZ, List.length_map])
  rw [hZ] at hx1
  generalize Z.map pvZ = xs at hx1 hP
  have hxl : xs.length = 2 := by have h := congrArg List.length hx1; rw [List.length_map] at h; exact h
  have hpl : ∀ x ∈ xs, x.pl.length ≤ 10000 := by
    intro x hx
    have h : unP x ∈ ps19 := by rw [← hx1]; exact List.mem_map_of_mem hx
    simp only [ps19, List.mem_cons, List.not_mem_nil, or_false] at h
    rcases h with h | h
    · rw [show x.pl = [⟨0, 0⟩] from congrArg Prod.snd h]; decide
    · rw [show x.pl = [⟨0, 1⟩] from congrArg Prod.snd h]; decide
  have hput := put_post_any r1 (.slice a ps19.length c) xs hP hpl (by omega)
  rw [hx1, show putE ps19 = (bs19, 0) by unfold putE; rw [if_pos (by kernel_rfl), put19]] at hput
  dsimp only at hput
  have hfr := fun r v (h : U8S r v bs19) => from_post_any r v bs19 [98, 97, 98] 0 h (by decide)
  rw [get19, show fromP ((some ps19).getD []) [98, 97, 98] 0 = [⟨0, 1⟩] by kernel_rfl, show (if (some ps19).isSome = true then (0 : Int) else 9) = 0 from rfl] at hfr
  have hB19 : u8s bs19 = [.int .u8 2, .int .u8 8, .int .u8 97, .int .u8 98, .int .u8 97, .int .u8 1, .int .u8 0, .int .u8 2, .int .u8 0, .int .u8 0, .int .u8 8, .int .u8 98, .int .u8 97, .int .u8 98, .int .u8 1, .int .u8 0, .int .u8 2, .int .u8 0, .int .u8 1] := rfl
  have hsm := fun r' v bz (hv : U8S r' v bs19) (h : r' bz = some (.cells [.int .u8 2, .int .u8 8, .int .u8 97, .int .u8 98, .int .u8 97, .int .u8 1, .int .u8 0, .int .u8 2, .int .u8 0, .int .u8 0, .int .u8 8, .int .u8 98, .int .u8 97, .int .u8 98, .int .u8 1, .int .u8 0, .int .u8 2, .int .u8 0, .int .u8 1].toArray 5 (0, 0))) => sameBytes_any r' v (.slice (some ⟨bz, 0, none⟩) 19 19) bs19 bs19 hv (Sl.lit h rfl (by simp [maxLen]))
  simp only [decide_true] at hsm
  repeat' (first | ((with_reducible apply kx_call (f := 13) (cap := [])); exact goesOf Try.func13 (by kernel_rfl) rfl; rfl; rfl; exact (hput); (exact atks); rintro v' H' ⟨a2, c2, rfl, rfl⟩; all_goals ((try simp only [List.cons_append, List.nil_append]); (refine apk ?_))) | ((with_reducible apply sw_freezeT (A := U8R (.slice a2 bs19.length c2) bs19)); (with_reducible (exact atk)); intro r2 g2 hr2 hg2 hA2) | ((with_reducible apply kx_call (f := 16) (cap := [])); exact goesOf Try.func16 (by kernel_rfl) rfl; rfl; rfl; exact (hfr r2 _ (hA2.sl hg2)); (exact atks); rintro v' H' ⟨pv, A, rfl, rfl, hpv⟩; all_goals ((try simp only [List.cons_append, List.nil_append]); (refine apk ?_))) | ((with_reducible apply sw_freezeT (c := .seq (.region 5 _ _) _) (A := A)); (with_reducible (exact atk)); intro r3 g3 hr3 hg3 hA3; have hpe := hpv _ _ hA3 hg3; have hB3 := (hA2.sl hg2).mono hr3) | ((with_reducible apply kx_lend [(bz, .cells [.int .u8 2, .int .u8 8, .int .u8 97, .int .u8 98, .int .u8 97, .int .u8 1, .int .u8 0, .int .u8 2, .int .u8 0, .int .u8 0, .int .u8 8, .int .u8 98, .int .u8 97, .int .u8 98, .int .u8 1, .int .u8 0, .int .u8 2, .int .u8 0, .int .u8 1].toArray 5 (0, 0))]); (exact atks); intro r' hl'; (with_reducible apply kx_call (f := 18) (cap := [])); exact goesOf Try.func18 (by kernel_rfl) rfl; rfl; rfl; exact (hsm _ _ _ (hB3.mono hl'.1) (Lent.h1 hl')); (exact atks); rintro v' H' ⟨rfl, rfl⟩; all_goals ((try simp only [pts, List.map_cons, List.map_nil, List.cons_append, List.nil_append]); (refine apk ?_))) | (exfalso; first | contradiction | omega) | (refine aw0 ?_) | (refine ap2 ?_ ?_ <;> first | exact True.intro | intro h) | (refine aw1 ?_) | (refine abx ?_; intro bb) | (refine abz ?_; intro bz) | (refine ahv ?_; intro v' hv') | (refine aac ?_; intro ac cc) | (refine aw2 ?_) | (refine ap4 ?_ ?_ <;> first | exact True.intro | intro h) | (with_reducible refine tr_two ?_ ?_))
  ((with_reducible apply fp_ret); exact res_1 rfl rfl)
  exact HR.out _ _ _ [] Takes.all ⟨rfl, rfl⟩
end Go.Proofs.Ytkbajhiahpkgiaa
