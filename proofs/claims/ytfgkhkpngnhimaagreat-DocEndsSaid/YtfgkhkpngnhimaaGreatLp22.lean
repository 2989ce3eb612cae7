/- mudlarklaw22.DocPuts: its contract. -/
import Derived.Test.YtfgkhkpngnhimaaGreatLw22
import Derived.Test.YtfgkhkpngnhimaaGreatKd
import Derived.Test.YtfgkhkpngnhimaaGreatRy
import Derived.Test.YtfgkhkpngnhimaaGreatAb
namespace Go.Proofs.YtfgkhkpngnhimaaGreat
open Go.RowKit Sx

theorem apart_nil (r : Hp) (v : Value) (hv : Sl r 1 v 2 [.slice none 0 0, .slice none 0 0]) : Tri Tryz.prog r 15 [v] [] fun w H => w = .bool true ∧ H = [] := by
  refine tri_put (RowC.nil 5 1) ?_
  refine tri_put (RowC.nil 5 1) ?_
  exact apartBytes_any r v [⟨none, 0, []⟩, ⟨none, 0, []⟩] ⟨fun _ => rfl, hv⟩ (by simp) (fun x hx => by simp at hx; subst hx; simp)
theorem apart_two (r : Hp) (v : Value) (a b : Option Addr) (c d : Nat) (l m : List UInt8) (hv : Sl r 1 v 2 [.slice a l.length c, .slice b m.length d]) (hl : l.length ≤ 100000000) (hm : m.length ≤ 100000000) : Tri Tryz.prog r 15 [v] [U8R (.slice a l.length c) l, U8R (.slice b m.length d) m] fun w H => w = .bool true ∧ H = [] :=
  apartBytes_any r v [⟨a, c, l⟩, ⟨b, d, m⟩] ⟨fun _ => rfl, hv⟩ (by simp) (fun x hx => by
    rcases List.mem_cons.1 hx with rfl | hx
    · exact hl
    · obtain rfl := List.mem_singleton.1 hx; exact hm)
theorem putDocs_len200 : ∀ {ds : List DocV}, (∀ d ∈ ds, d.path.length ≤ 200 ∧ d.size ≤ 1048576) → (ds.flatMap putDoc).length ≤ ds.length * 216
  | [], _ => by simp
  | d :: ds, h => by
    have h1 := h d List.mem_cons_self
    have ih := putDocs_len200 (ds := ds) fun x hx => h x (List.mem_cons_of_mem _ hx)
    have h3 := septs_len6 (n := d.path.length) (by unfold maxNum; omega)
    have h4 := septs_len6 (n := d.size.toNat) (by unfold maxNum; omega)
    have e : (putDoc d).length = (septs d.path.length).length + d.path.length + 4 + (septs d.size.toNat).length := by simp [putDoc, texts, fixed]; omega
    simp only [List.flatMap_cons, List.length_append, List.length_cons, Nat.succ_mul, e]
    omega
theorem sizeD_small {ds : List DocV} {B : Nat} (h : sizeD ds ≤ B) : ds.length ≤ B ∧ ∀ d ∈ ds, d.path.length ≤ B ∧ d.lang.length ≤ B :=
  ⟨Nat.le_trans (sizeD_len ds) h, fun f hf => by have := sizeD_mem hf; omega⟩
theorem Docs.wide {r : Hp} {a : Option Addr} {c : Nat} {ds : List DocV} {g : Hp} (h : RowC 47 4 (.slice a (ds.length + 12) c) (ds.length + 12) ((ds ++ marksD 12).flatMap encD) g) (hs : sub g r) : Docs r (.slice a (ds.length + 12) c) (ds ++ marksD 12) ∧ Docs r (.slice a ds.length c) ds := by
  have h1 := h.sl hs
  refine ⟨⟨fun _ => rfl, by rw [show (ds ++ marksD 12).length = ds.length + 12 by simp [marksD]]; exact h1⟩, fun _ => rfl, ?_⟩
  have h2 := Sl.narrow h1 (m := ds.length) (by omega)
  rw [List.flatMap_append, show ds.length * 4 = (ds.flatMap encD).length by rw [flat_len (sz := 4) (fun _ => rfl)], List.take_left] at h2
  exact h2
set_option maxRecDepth 10000 in
set_option maxHeartbeats 4000000 in
theorem docPuts_any (r : Hp) (v : Value) (ds : List DocV) (s : List UInt8) (hv : Docs r v ds) (hl : ∀ d ∈ ds, d.path.length ≤ 140737488351232 ∧ d.lang.length ≤ 140737488351232) (hsum : ∀ d ∈ ds, d.sum < 4294967296) (hs : s.length ≤ 140737488351232) : Tri Tryz.prog r 3 [v, .string (bs s)] [] fun w H => w = .bool true ∧ H = [] := by
  refine Tri.free2 fun R HR => ?_
  have hdo := docsOf_any r v ds 4000 hv hl (by omega)
  rw [show ((4000 : Nat) : Int) = 4000 from rfl] at hdo
  by_cases hb : sizeD ds + s.length ≤ 4000
  · obtain ⟨hn, hd⟩ := sizeD_small (B := 4000) (ds := ds) (by omega)
    have hpl : ∀ x ∈ ds, x.path.length ≤ 1000000 := fun d h => by have := hd d h; omega
    have hlf := lentDocs_any r v ds hv (by omega)
    refine fn_of_sw Tryz.func3 rfl _ rfl ?_; simp only [Tryz.ntmps3, List.length_cons, List.length_nil, Nat.reduceAdd, Nat.reduceSub, List.replicate_succ, List.replicate_zero, List.nil_append, List.cons_append]
    repeat' (first | ((with_reducible apply kx_call (f := 5) (cap := [])); exact goesOf Tryz.func5 (by kernel_rfl) rfl; rfl; rfl; exact (hdo); (exact atks); rintro v' H' ⟨⟨z, rfl, hsz, hz⟩, rfl⟩; all_goals ((try simp only [List.nil_append]); (refine apk ?_))) | ((with_reducible apply kx_call (f := 7) (cap := [])); exact goesOf Tryz.func7 (by kernel_rfl) rfl; rfl; rfl; exact (hlf); (exact atks); rintro v' H' ⟨a1, c1, rfl, hc1, rfl⟩; all_goals ((try simp only [List.cons_append, List.nil_append]); (refine apk ?_))) | ((with_reducible apply sw_freezeT (A := RowC 47 4 (.slice a1 (ds.length + 12) c1) (ds.length + 12) ((ds ++ marksD 12).flatMap encD))); (with_reducible (exact atk)); intro r1 g1 hr1 hg1 hA1) | (refine aw0 ?_) | (refine ap2 ?_ ?_ <;> first | exact True.intro | intro h) | (refine aw1 ?_) | (refine abx ?_; intro bb) | (refine abz ?_; intro bz) | (refine ahv ?_; intro v' hv') | (refine aac ?_; intro ac cc) | (refine aw2 ?_) | (refine ap4 ?_ ?_ <;> first | exact True.intro | intro h) | (with_reducible refine tr_two ?_ ?_))
    obtain ⟨hW, hD⟩ := Docs.wide hA1 hg1
    have hput := put_any r1 _ ds hD hpl hsum
    have hrput := rput_any r1 v ds (hv.mono hr1) hpl hsum
    have hrt := docsOk_any r1 _ ds hD hpl
    have hrrt := rdocs_any r1 v ds (hv.mono hr1) hpl
    rw [refDocs_eq] at hrrt
    have hfd := find_any r1 _ ds hD s
    have hrfd := rfind_any r1 v ds (hv.mono hr1) s
    have hk := keptDocs_any r1 a1 c1 v ds hc1 hW (hv.mono hr1)
    generalize idx (ds.findIdx? fun d => decide (d.path = s)) = ix at hfd hrfd
    cases hok : docsOk ds
    · simp only [hok, Bool.false_eq_true, if_false] at hput hrput hrt hrrt
      repeat' (first | ((with_reducible apply kx_call (f := 8) (cap := [])); exact goesOf Tryz.func8 (by kernel_rfl) rfl; rfl; rfl; exact (hput); (exact atks); rintro v' H' ⟨rfl, rfl⟩; all_goals ((try simp only [List.nil_append]); (refine apk ?_))) | ((with_reducible apply kx_call (f := 9) (cap := [])); exact goesOf Tryz.func9 (by kernel_rfl) rfl; rfl; rfl; exact (hrput); (exact atks); rintro v' H' ⟨rfl, rfl⟩; all_goals ((try simp only [List.nil_append]); (refine apk ?_))) | ((with_reducible apply kx_call (f := 10) (cap := [])); exact goesOf Tryz.func10 (by kernel_rfl) rfl; rfl; rfl; exact (hrt); (exact atks); rintro v' H' ⟨rfl, rfl⟩; all_goals ((try simp only [List.nil_append]); (refine apk ?_))) | ((with_reducible apply kx_call (f := 11) (cap := [])); exact goesOf Tryz.func11 (by kernel_rfl) rfl; rfl; rfl; exact (hrrt); (exact atks); rintro v' H' ⟨rfl, rfl⟩; all_goals ((try simp only [List.nil_append]); (refine apk ?_))) | ((with_reducible apply kx_call (f := 12) (cap := [])); exact goesOf Tryz.func12 (by kernel_rfl) rfl; rfl; rfl; exact (sameBytes_any _ _ _ [] [] (Sl.nil _ _) (Sl.nil _ _)); (exact atks); rintro v' H' ⟨rfl, rfl⟩; all_goals ((try simp only [List.nil_append]); (refine apk ?_))) | ((with_reducible apply kx_call (f := 13) (cap := [])); exact goesOf Tryz.func13 (by kernel_rfl) rfl; rfl; rfl; exact (hfd); (exact atks); rintro v' H' ⟨rfl, rfl⟩; all_goals ((try simp only [List.nil_append]); (refine apk ?_))) | ((with_reducible apply kx_call (f := 14) (cap := [])); exact goesOf Tryz.func14 (by kernel_rfl) rfl; rfl; rfl; exact (hrfd); (exact atks); rintro v' H' ⟨rfl, rfl⟩; all_goals ((try simp only [List.nil_append]); (refine apk ?_))) | ((with_reducible apply kx_lend [(bz, .cells [.slice none 0 0, .slice none 0 0].toArray 26 (0, 0))]); (exact atks); intro r' hl'; (with_reducible apply kx_call (f := 15) (cap := [])); exact goesOf Tryz.func15 (by kernel_rfl) rfl; rfl; rfl; exact (apart_nil _ _ (Sl.lit (n := 2) (Lent.h1 hl') rfl (by simp [maxLen]))); (exact atks); rintro v' H' ⟨rfl, rfl⟩; all_goals ((try simp only [pts, List.map_cons, List.map_nil, List.cons_append, List.nil_append]); (refine apk ?_))) | ((with_reducible apply kx_call (f := 16) (cap := [])); exact goesOf Tryz.func16 (by kernel_rfl) rfl; rfl; rfl; exact (hk); (exact atks); rintro v' H' ⟨rfl, rfl⟩; all_goals ((try simp only [List.nil_append]); (refine apk ?_))) | ((with_reducible apply kx_call (f := 6) (cap := [])); exact goesOf Tryz.func6 (by kernel_rfl) rfl; rfl; rfl; exact (awake22_any _); (exact atks); rintro v' H' ⟨rfl, rfl⟩; all_goals ((try simp only [List.nil_append]); (refine apk ?_))) | (refine aw0 ?_) | (refine ap2 ?_ ?_ <;> first | exact True.intro | intro h) | (refine aw1 ?_) | (refine abx ?_; intro bb) | (refine abz ?_; intro bz) | (refine ahv ?_; intro v' hv') | (refine aac ?_; intro ac cc) | (refine aw2 ?_) | (refine ap4 ?_ ?_ <;> first | exact True.intro | intro h) | (with_reducible refine tr_two ?_ ?_))
      ((with_reducible apply fp_ret); exact res_1 rfl rfl)
      exact HR.out _ _ _ [] (by (exact atks)) ⟨rfl, rfl⟩
    · simp only [hok, if_true] at hput hrput hrt hrrt
      obtain ⟨hn4, heach⟩ := docsOk_each hok
      have hpb : (putBytes ds).length ≤ 10000000 := by
        have h1 := putDocs_len200 (ds := ds) fun d h => ⟨(heach d h).1, (heach d h).2.2⟩
        have h2 := septs_len6 (n := ds.length) (by unfold maxNum; omega)
        rw [putBytes, List.length_append]
        omega
      generalize putBytes ds = B at hput hrput hpb
      repeat' (first | ((with_reducible apply kx_call (f := 8) (cap := [])); exact goesOf Tryz.func8 (by kernel_rfl) rfl; rfl; rfl; exact (hput); (exact atks); rintro v' H' ⟨a2, c2, rfl, rfl⟩; all_goals ((try simp only [List.cons_append, List.nil_append]); (refine apk ?_))) | (refine aw0 ?_) | (refine ap2 ?_ ?_ <;> first | exact True.intro | intro h) | (refine aw1 ?_) | (refine abx ?_; intro bb) | (refine abz ?_; intro bz) | (refine ahv ?_; intro v' hv') | (refine aac ?_; intro ac cc) | (refine aw2 ?_) | (refine ap4 ?_ ?_ <;> first | exact True.intro | intro h) | (with_reducible refine tr_two ?_ ?_))
      repeat' (first | ((with_reducible apply kx_call (f := 9) (cap := [])); exact goesOf Tryz.func9 (by kernel_rfl) rfl; rfl; rfl; exact (hrput); (exact atks); rintro v' H' ⟨a3, c3, rfl, rfl⟩; all_goals ((try simp only [List.cons_append, List.nil_append]); (refine apk ?_))) | (refine aw0 ?_) | (refine ap2 ?_ ?_ <;> first | exact True.intro | intro h) | (refine aw1 ?_) | (refine abx ?_; intro bb) | (refine abz ?_; intro bz) | (refine ahv ?_; intro v' hv') | (refine aac ?_; intro ac cc) | (refine aw2 ?_) | (refine ap4 ?_ ?_ <;> first | exact True.intro | intro h) | (with_reducible refine tr_two ?_ ?_))
      repeat' (first | ((with_reducible apply kx_call (f := 8) (cap := [])); exact goesOf Tryz.func8 (by kernel_rfl) rfl; rfl; rfl; exact (hput); (exact atks); rintro v' H' ⟨a4, c4, rfl, rfl⟩; all_goals ((try simp only [List.cons_append, List.nil_append]); (refine apk ?_))) | ((with_reducible apply kx_call (f := 10) (cap := [])); exact goesOf Tryz.func10 (by kernel_rfl) rfl; rfl; rfl; exact (hrt); (exact atks); rintro v' H' ⟨rfl, rfl⟩; all_goals ((try simp only [List.nil_append]); (refine apk ?_))) | ((with_reducible apply kx_call (f := 11) (cap := [])); exact goesOf Tryz.func11 (by kernel_rfl) rfl; rfl; rfl; exact (hrrt); (exact atks); rintro v' H' ⟨rfl, rfl⟩; all_goals ((try simp only [List.nil_append]); (refine apk ?_))) | ((with_reducible apply kx_lendC (A := U8R (.slice a2 B.length c2) B)); (exact atk); intro r5 g5 hr5 hg5 hA5; (with_reducible apply kx_lendC (A := U8R (.slice a3 B.length c3) B)); (exact atk); intro r6 g6 hr6 hg6 hA6; ((with_reducible apply kx_call (f := 12) (cap := [])); exact goesOf Tryz.func12 (by kernel_rfl) rfl; rfl; rfl; exact (sameBytes_any r6 _ _ B B ((hA5.sl hg5).mono hr6) (hA6.sl hg6)); (exact atks); rintro v' H' ⟨rfl, rfl⟩; all_goals ((try simp only [List.nil_append]); (refine apk ?_)))) | ((with_reducible apply kx_call (f := 13) (cap := [])); exact goesOf Tryz.func13 (by kernel_rfl) rfl; rfl; rfl; exact (hfd); (exact atks); rintro v' H' ⟨rfl, rfl⟩; all_goals ((try simp only [List.nil_append]); (refine apk ?_))) | ((with_reducible apply kx_call (f := 14) (cap := [])); exact goesOf Tryz.func14 (by kernel_rfl) rfl; rfl; rfl; exact (hrfd); (exact atks); rintro v' H' ⟨rfl, rfl⟩; all_goals ((try simp only [List.nil_append]); (refine apk ?_))) | ((with_reducible apply kx_lend [(bz, .cells [.slice a2 B.length c2, .slice a4 B.length c4].toArray 26 (0, 0))]); (exact atks); intro r' hl'; (with_reducible apply kx_call (f := 15) (cap := [])); exact goesOf Tryz.func15 (by kernel_rfl) rfl; rfl; rfl; exact (apart_two _ _ a2 a4 c2 c4 B B (Sl.lit (n := 2) (Lent.h1 hl') rfl (by simp [maxLen])) (by omega) (by omega)); (exact atks); rintro v' H' ⟨rfl, rfl⟩; all_goals ((try simp only [pts, List.map_cons, List.map_nil, List.cons_append, List.nil_append]); (refine apk ?_))) | ((with_reducible apply kx_call (f := 16) (cap := [])); exact goesOf Tryz.func16 (by kernel_rfl) rfl; rfl; rfl; exact (hk); (exact atks); rintro v' H' ⟨rfl, rfl⟩; all_goals ((try simp only [List.nil_append]); (refine apk ?_))) | ((with_reducible apply kx_call (f := 6) (cap := [])); exact goesOf Tryz.func6 (by kernel_rfl) rfl; rfl; rfl; exact (awake22_any _); (exact atks); rintro v' H' ⟨rfl, rfl⟩; all_goals ((try simp only [List.nil_append]); (refine apk ?_))) | (refine aw0 ?_) | (refine ap2 ?_ ?_ <;> first | exact True.intro | intro h) | (refine aw1 ?_) | (refine abx ?_; intro bb) | (refine abz ?_; intro bz) | (refine ahv ?_; intro v' hv') | (refine aac ?_; intro ac cc) | (refine aw2 ?_) | (refine ap4 ?_ ?_ <;> first | exact True.intro | intro h) | (with_reducible refine tr_two ?_ ?_))
      ((with_reducible apply fp_ret); exact res_1 rfl rfl)
      exact HR.out _ _ _ [] (by (exact atks)) ⟨rfl, rfl⟩
  · refine fn_of_sw Tryz.func3 rfl _ rfl ?_; simp only [Tryz.ntmps3, List.length_cons, List.length_nil, Nat.reduceAdd, Nat.reduceSub, List.replicate_succ, List.replicate_zero, List.nil_append, List.cons_append]
    repeat' (first | (refine aw0m ?_) | (refine ap2 ?_ ?_ <;> first | exact True.intro | intro h) | ((with_reducible apply kx_call (f := 5) (cap := [])); exact goesOf Tryz.func5 (by kernel_rfl) rfl; rfl; rfl; exact (hdo); (exact atks); rintro v' H' ⟨⟨z, rfl, hsz, hz⟩, rfl⟩; all_goals ((try simp only [List.nil_append]); (refine apk ?_))) | ((with_reducible apply kx_call (f := 6) (cap := [])); exact goesOf Tryz.func6 (by kernel_rfl) rfl; rfl; rfl; exact (awake22_any _); (exact atks); rintro v' H' ⟨rfl, rfl⟩; all_goals ((try simp only [List.nil_append]); (refine apk ?_))) | (refine aw1m ?_) | (refine abx ?_; intro bb) | (refine abz ?_; intro bz) | (refine ahv ?_; intro v' hv') | (refine aac ?_; intro ac cc) | (refine aw2 ?_) | (refine ap4 ?_ ?_ <;> first | exact True.intro | intro h) | (with_reducible refine tr_two ?_ ?_))
    all_goals (((with_reducible apply fp_ret); exact res_1 rfl rfl); exact HR.out _ _ _ [] (by (exact atks)) ⟨rfl, rfl⟩)
end Go.Proofs.YtfgkhkpngnhimaaGreat
