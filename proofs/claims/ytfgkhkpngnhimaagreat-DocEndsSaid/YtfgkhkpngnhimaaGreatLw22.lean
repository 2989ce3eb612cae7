/- mudlarklaw22: awake, DocGets: their contracts. -/
import Derived.Test.YtfgkhkpngnhimaaGreatEq22
namespace Go.Proofs.YtfgkhkpngnhimaaGreat
open Go.RowKit Sx

theorem DocR.docs {r g : Hp} {v : Value} {ds : List DocV} (h : DocR v ds g) (hs : sub g r) : Docs r v ds := ⟨fun _ => rfl, h.sl hs⟩
def fs0 : List FileV := [⟨[97, 46, 103, 111], .slice none 0 0, []⟩]
def ds0 : List DocV := [⟨[97, 46, 103, 111], [103, 111], 0, 0⟩]
def bs0 : List UInt8 := [1, 4, 97, 46, 103, 111, 0, 0, 0, 0, 0]
set_option maxRecDepth 10000 in
set_option maxHeartbeats 4000000 in
theorem awake22_any (r : Hp) : Tri Tryz.prog r 6 [] [] fun w H => w = .bool true ∧ H = [] := by
  refine Tri.free2 fun R HR => ?_
  have hok : filesOk fs0 = true := by kernel_rfl
  have hd : fs0.map docOf = ds0 := by kernel_rfl
  have hok2 : docsOk ds0 = true := by kernel_rfl
  have hp : putBytes ds0 = bs0 := by kernel_rfl
  have hl0 : ds0.length = 1 := rfl
  have hof := fun r' bz (h : r' bz = some (.cells [.string (bs [97, 46, 103, 111]), .slice none 0 0].toArray 39 (0, 0))) => of_any' r' (.slice (some ⟨bz, 0, none⟩) 1 1) fs0 ⟨⟨fun _ => rfl, Sl.lit h rfl (by simp [maxLen])⟩, fun f hf => by obtain rfl := List.mem_singleton.1 hf; exact Sl.nil _ _⟩ (fun x hx => by obtain rfl := List.mem_singleton.1 hx; simp)
  simp only [hok, hd, if_true] at hof
  rw [show ((fs0.length : Nat)) = 1 from rfl] at hof
  refine fn_of_sw Tryz.func6 rfl _ rfl ?_; simp only [Tryz.ntmps6, List.length_nil, Nat.reduceSub, List.replicate_succ, List.replicate_zero, List.nil_append]
  repeat' (first | ((with_reducible apply kx_lend [(bz, .cells [.string (bs [97, 46, 103, 111]), .slice none 0 0].toArray 39 (0, 0))]); (exact atks); intro r' hl'; (with_reducible apply kx_call (f := 22) (cap := [])); exact goesOf Tryz.func22 (by kernel_rfl) rfl; rfl; rfl; exact (hof _ _ (Lent.h1 hl')); (exact atks); rintro v' H' ⟨a1, c1, rfl, rfl⟩; all_goals ((try simp only [pts, List.map_cons, List.map_nil, List.cons_append, List.nil_append]); (refine apk ?_))) | ((with_reducible apply sw_freezeT (A := DocR (.slice a1 1 c1) ds0)); (with_reducible (exact atk)); intro r1 g1 hr1 hg1 hA1) | (refine aw0 ?_) | (refine ap2 ?_ ?_ <;> first | exact True.intro | intro h) | (refine aw1 ?_) | (refine abx ?_; intro bb) | (refine abz ?_; intro bz) | (refine ahv ?_; intro v' hv') | (refine aac ?_; intro ac cc) | (refine aw2 ?_) | (refine ap4 ?_ ?_ <;> first | exact True.intro | intro h) | (with_reducible refine tr_two ?_ ?_))
  have hD := DocR.docs hA1 hg1
  have hput := put_any r1 _ ds0 hD (fun x hx => by obtain rfl := List.mem_singleton.1 hx; simp) (fun x hx => by obtain rfl := List.mem_singleton.1 hx; simp)
  simp only [hok2, hp, if_true] at hput
  repeat' (first | ((with_reducible apply kx_call (f := 8) (cap := [])); exact goesOf Tryz.func8 (by kernel_rfl) rfl; rfl; rfl; exact (hput); (exact atks); rintro v' H' ⟨a2, c2, rfl, rfl⟩; all_goals ((try simp only [List.cons_append, List.nil_append]); (refine apk ?_))) | ((with_reducible apply sw_freezeT (A := U8R (.slice a2 bs0.length c2) bs0)); (with_reducible (exact atk)); intro r2 g2 hr2 hg2 hA2) | (refine aw0 ?_) | (refine ap2 ?_ ?_ <;> first | exact True.intro | intro h) | (refine aw1 ?_) | (refine abx ?_; intro bb) | (refine abz ?_; intro bz) | (refine ahv ?_; intro v' hv') | (refine aac ?_; intro ac cc) | (refine aw2 ?_) | (refine ap4 ?_ ?_ <;> first | exact True.intro | intro h) | (with_reducible refine tr_two ?_ ?_))
  have hD2 : Docs r2 (.slice a1 1 c1) ds0 := hD.mono hr2
  have hB2 : U8S r2 (.slice a2 bs0.length c2) bs0 := hA2.sl hg2
  have hf1 := find_any r2 _ ds0 hD2 [97, 46, 103, 111]
  have hf2 := find_any r2 _ ds0 hD2 [98]
  rw [show idx (ds0.findIdx? fun d => decide (d.path = [97, 46, 103, 111])) = 0 by kernel_rfl] at hf1
  rw [show idx (ds0.findIdx? fun d => decide (d.path = [98])) = -1 by kernel_rfl] at hf2
  have hsm := fun r' bz (hr : sub r2 r') (h : r' bz = some (.cells [.int .u8 1, .int .u8 4, .int .u8 97, .int .u8 46, .int .u8 103, .int .u8 111, .int .u8 0, .int .u8 0, .int .u8 0, .int .u8 0, .int .u8 0].toArray 5 (0, 0))) => sameBytes_any r' _ (.slice (some ⟨bz, 0, none⟩) 11 11) bs0 bs0 (hB2.mono hr) (Sl.lit h rfl (by simp [maxLen]))
  simp only [decide_true] at hsm
  repeat' (first | ((with_reducible apply kx_lend [(bz, .cells [.int .u8 1, .int .u8 4, .int .u8 97, .int .u8 46, .int .u8 103, .int .u8 111, .int .u8 0, .int .u8 0, .int .u8 0, .int .u8 0, .int .u8 0].toArray 5 (0, 0))]); (exact atks); intro r' hl'; (with_reducible apply kx_call (f := 12) (cap := [])); exact goesOf Tryz.func12 (by kernel_rfl) rfl; rfl; rfl; exact (hsm _ _ hl'.1 (Lent.h1 hl')); (exact atks); rintro v' H' ⟨rfl, rfl⟩; all_goals ((try simp only [pts, List.map_cons, List.map_nil, List.cons_append, List.nil_append]); (refine apk ?_))) | ((with_reducible apply kx_call (f := 13) (cap := [])); exact goesOf Tryz.func13 (by kernel_rfl) rfl; rfl; rfl; exact (hf1); (exact atks); rintro v' H' ⟨rfl, rfl⟩; all_goals ((try simp only [List.nil_append]); (refine apk ?_))) | ((with_reducible apply kx_call (f := 13) (cap := [])); exact goesOf Tryz.func13 (by kernel_rfl) rfl; rfl; rfl; exact (hf2); (exact atks); rintro v' H' ⟨rfl, rfl⟩; all_goals ((try simp only [List.nil_append]); (refine apk ?_))) | (refine aw0 ?_) | (refine ap2 ?_ ?_ <;> first | exact True.intro | intro h) | (refine aw1 ?_) | (refine abx ?_; intro bb) | (refine abz ?_; intro bz) | (refine ahv ?_; intro v' hv') | (refine aac ?_; intro ac cc) | (refine aw2 ?_) | (refine ap4 ?_ ?_ <;> first | exact True.intro | intro h) | (with_reducible refine tr_two ?_ ?_))
  ((with_reducible apply fp_ret); exact res_1 rfl rfl)
  exact HR.out _ _ _ [] (by (exact atks)) ⟨rfl, rfl⟩
set_option maxRecDepth 10000 in
set_option maxHeartbeats 4000000 in
theorem docGets_any (r : Hp) (v : Value) (b : List UInt8) (hv : U8S r v b) : Tri Tryz.prog r 19 [v] [] fun w H => w = .bool true ∧ H = [] := by
  refine Tri.free2 fun R HR => ?_
  by_cases hb : b.length ≤ 4000
  · refine fn_of_sw Tryz.func19 rfl _ rfl ?_; simp only [Tryz.ntmps19, List.length_cons, List.length_nil, Nat.reduceAdd, Nat.reduceSub, List.replicate_succ, List.replicate_zero, List.nil_append, List.cons_append]
    repeat' (first | ((with_reducible apply kx_call (f := 49) (cap := [])); exact goesOf Tryz.func49 (by kernel_rfl) rfl; rfl; rfl; exact (lentBytes_any r v b hv (by omega)); (exact atks); rintro v' H' ⟨a, c, rfl, rfl⟩; all_goals ((try simp only [List.cons_append, List.nil_append]); (refine apk ?_))) | ((with_reducible apply sw_freezeT (A := RowC 5 1 (.slice a (b.length + 12) c) (b.length + 12) (u8s (b ++ marksL 12)))); (with_reducible (exact atk)); intro r1 g1 hr1 hg1 hA1) | (refine aw0 ?_) | (refine ap2 ?_ ?_ <;> first | exact True.intro | intro h) | (refine aw1 ?_) | (refine abx ?_; intro bb) | (refine abz ?_; intro bz) | (refine ahv ?_; intro v' hv') | (refine aac ?_; intro ac cc) | (refine aw2 ?_) | (refine ap4 ?_ ?_ <;> first | exact True.intro | intro h) | (with_reducible refine tr_two ?_ ?_))
    have hw1 := Wide.of hA1 hg1
    have hg := get_any r1 _ b hw1.sl (by omega)
    have hrg := fun r' hr => rget_any r' v b ((hv.mono hr1).mono hr) (by omega)
    rw [refGetOk_eq] at hrg
    cases hok : getOk b
    · rw [hok] at hg
      simp only [Bool.false_eq_true, if_false, hok] at hg hrg
      repeat' (first | (refine aw0m ?_) | (refine ap2 ?_ ?_ <;> first | exact True.intro | intro h) | ((with_reducible apply kx_call (f := 50) (cap := [])); exact goesOf Tryz.func50 (by kernel_rfl) rfl; rfl; rfl; exact (hg); (exact atks); rintro v' H' ⟨rfl, rfl⟩; all_goals ((try simp only [List.nil_append]); (refine apk ?_))) | ((with_reducible apply kx_call (f := 51) (cap := [])); exact goesOf Tryz.func51 (by kernel_rfl) rfl; rfl; rfl; exact (hrg _ (fun _ _ h => h)); (exact atks); rintro v' H' ⟨rfl, rfl⟩; all_goals ((try simp only [List.nil_append]); (refine apk ?_))) | ((with_reducible apply kx_call (f := 47) (cap := [])); exact goesOf Tryz.func47 (by kernel_rfl) rfl; rfl; rfl; exact (sameDocs_any _ _ _ [] [] ⟨fun _ => rfl, Sl.nil _ _⟩ ⟨fun _ => rfl, Sl.nil _ _⟩); (exact atks); rintro v' H' ⟨rfl, rfl⟩; all_goals ((try simp only [List.nil_append]); (refine apk ?_))) | ((with_reducible apply kx_call (f := 52) (cap := [])); exact goesOf Tryz.func52 (by kernel_rfl) rfl; rfl; rfl; exact (keptW_any _ _ _ _ hw1 (hv.mono hr1)); (exact atks); rintro v' H' ⟨rfl, rfl⟩; all_goals ((try simp only [List.nil_append]); (refine apk ?_))) | ((with_reducible apply kx_call (f := 6) (cap := [])); exact goesOf Tryz.func6 (by kernel_rfl) rfl; rfl; rfl; exact (awake22_any _); (exact atks); rintro v' H' ⟨rfl, rfl⟩; all_goals ((try simp only [List.nil_append]); (refine apk ?_))) | (refine aw1m ?_) | (refine abx ?_; intro bb) | (refine abz ?_; intro bz) | (refine ahv ?_; intro v' hv') | (refine aac ?_; intro ac cc) | (refine aw2 ?_) | (refine ap4 ?_ ?_ <;> first | exact True.intro | intro h) | (with_reducible refine tr_two ?_ ?_))
      ((with_reducible apply fp_ret); exact res_1 rfl rfl)
      exact HR.out _ _ _ [] (by (exact atks)) ⟨rfl, rfl⟩
    · rw [hok] at hg
      simp only [if_true, hok] at hg hrg
      repeat' (first | ((with_reducible apply kx_call (f := 50) (cap := [])); exact goesOf Tryz.func50 (by kernel_rfl) rfl; rfl; rfl; exact (hg); (exact atks); rintro v' H' ⟨a2, c2, rfl, rfl⟩; all_goals ((try simp only [List.cons_append, List.nil_append]); (refine apk ?_))) | ((with_reducible apply sw_freezeT (A := DocR (.slice a2 (getDocs b).1.length c2) (getDocs b).1)); (with_reducible (exact atk)); intro r2 g2 hr2 hg2 hA2) | ((with_reducible apply kx_call (f := 51) (cap := [])); exact goesOf Tryz.func51 (by kernel_rfl) rfl; rfl; rfl; exact (hrg _ hr2); (exact atks); rintro v' H' ⟨a3, c3, rfl, rfl⟩; all_goals ((try simp only [List.cons_append, List.nil_append]); (refine apk ?_))) | ((with_reducible apply sw_freezeT (A := DocR (.slice a3 (getDocs b).1.length c3) (getDocs b).1)); (with_reducible (exact atk)); intro r3 g3 hr3 hg3 hA3) | ((with_reducible apply kx_call (f := 47) (cap := [])); exact goesOf Tryz.func47 (by kernel_rfl) rfl; rfl; rfl; exact (sameDocs_any _ _ _ _ _ ((DocR.docs hA2 hg2).mono hr3) (DocR.docs hA3 hg3)); (exact atks); rintro v' H' ⟨rfl, rfl⟩; all_goals ((try simp only [List.nil_append]); (refine apk ?_))) | ((with_reducible apply kx_call (f := 52) (cap := [])); exact goesOf Tryz.func52 (by kernel_rfl) rfl; rfl; rfl; exact (keptW_any _ _ _ _ ((hw1.mono hr2).mono hr3) (((hv.mono hr1).mono hr2).mono hr3)); (exact atks); rintro v' H' ⟨rfl, rfl⟩; all_goals ((try simp only [List.nil_append]); (refine apk ?_))) | ((with_reducible apply kx_call (f := 6) (cap := [])); exact goesOf Tryz.func6 (by kernel_rfl) rfl; rfl; rfl; exact (awake22_any _); (exact atks); rintro v' H' ⟨rfl, rfl⟩; all_goals ((try simp only [List.nil_append]); (refine apk ?_))) | (refine aw0 ?_) | (refine ap2 ?_ ?_ <;> first | exact True.intro | intro h) | (refine aw1 ?_) | (refine abx ?_; intro bb) | (refine abz ?_; intro bz) | (refine ahv ?_; intro v' hv') | (refine aac ?_; intro ac cc) | (refine aw2 ?_) | (refine ap4 ?_ ?_ <;> first | exact True.intro | intro h) | (with_reducible refine tr_two ?_ ?_))
      ((with_reducible apply fp_ret); exact res_1 rfl rfl)
      exact HR.out _ _ _ [] (by (exact atks)) ⟨rfl, rfl⟩
  · refine fn_of_sw Tryz.func19 rfl _ rfl ?_; simp only [Tryz.ntmps19, List.length_cons, List.length_nil, Nat.reduceAdd, Nat.reduceSub, List.replicate_succ, List.replicate_zero, List.nil_append, List.cons_append]
    repeat' (first | (refine aw0m ?_) | (refine ap2 ?_ ?_ <;> first | exact True.intro | intro h) | ((with_reducible apply kx_call (f := 6) (cap := [])); exact goesOf Tryz.func6 (by kernel_rfl) rfl; rfl; rfl; exact (awake22_any _); (exact atks); rintro v' H' ⟨rfl, rfl⟩; all_goals ((try simp only [List.nil_append]); (refine apk ?_))) | (refine aw1m ?_) | (refine abx ?_; intro bb) | (refine abz ?_; intro bz) | (refine ahv ?_; intro v' hv') | (refine aac ?_; intro ac cc) | (refine aw2 ?_) | (refine ap4 ?_ ?_ <;> first | exact True.intro | intro h) | (with_reducible refine tr_two ?_ ?_))
    ((with_reducible apply fp_ret); exact res_1 rfl rfl)
    exact HR.out _ _ _ [] (by (exact atks)) ⟨rfl, rfl⟩
end Go.Proofs.YtfgkhkpngnhimaaGreat
