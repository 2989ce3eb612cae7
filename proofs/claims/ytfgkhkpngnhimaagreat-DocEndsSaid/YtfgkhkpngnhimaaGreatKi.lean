/- mudlarkkit: marks; Same, Lent, Kept of bytes and files; FilesOf: their contracts. -/
import Derived.Test.YtfgkhkpngnhimaaGreatEl
import Derived.Test.YtfgkhkpngnhimaaGreatPu
import Derived.Test.YtfgkhkpngnhimaaGreatSx
namespace Go.Proofs.YtfgkhkpngnhimaaGreat
open Go.RowKit Sx

theorem take_getD {α : Type} {k : Nat} {l : List α} {d : α} (h : k < l.length) : l.take (k + 1) = l.take k ++ [l.getD k d] := by
  rw [List.take_succ_eq_append_getElem h]; simp [h]
theorem take_eqD {α : Type} {k : Nat} {l m : List α} {d : α} (ht : l.take k = m.take k) (h1 : k < l.length) (h2 : k < m.length) (h : l.getD k d = m.getD k d) : l.take (k + 1) = m.take (k + 1) := by
  rw [take_getD (d := d) h1, take_getD (d := d) h2, ht, h]
theorem take_all2 {α : Type} {k : Nat} {l m : List α} (ht : l.take k = m.take k) (h1 : l.length ≤ k) (h2 : m.length ≤ k) : l = m := by
  rwa [List.take_of_length_le h1, List.take_of_length_le h2] at ht
theorem maxI {n : Nat} (h : n ≤ maxLen) : n ≤ 9223372036854775807 := by unfold maxLen at h; omega

def markN (k i : Nat) : Nat := 1000003 * (k + 7) + i
def markB (k i : Nat) : UInt8 := UInt8.ofNat (markN k i * 11400714819323198485 % 18446744073709551616 / 72057594037927936)
/-- A text's mark. -/
def markT (k i : Nat) : List UInt8 := [35, UInt8.ofNat k, UInt8.ofNat (k / 256), UInt8.ofNat (k / 65536), 47, UInt8.ofNat i, UInt8.ofNat (i / 256), UInt8.ofNat (i / 65536)]
/-- The marks behind a lent slice. -/
def marksL (n : Nat) : List UInt8 := (List.range n).map (markB 1)
theorem marksL_succ (n : Nat) : marksL (n + 1) = marksL n ++ [markB 1 n] := by simp [marksL, List.range_succ]
theorem marksL_len (n : Nat) : (marksL n).length = n := by simp [marksL]
set_option maxHeartbeats 400000 in
theorem mark_any (r : Hp) (k i : Nat) (hk : k ≤ 100000000 := by omega) (hi : i ≤ 1000000000 := by omega) : Tri Tryz.prog r 58 [.int .i64 k, .int .i64 i] [] fun w H => w = .int .i64 (markN k i) ∧ H = [] := by
  refine Tri.free fun R HR => ?_
  refine fn_of_sw Tryz.func58 rfl _ rfl ?_; simp only [Tryz.ntmps58, List.length_cons, List.length_nil, Nat.reduceAdd, Nat.reduceSub, List.replicate_succ, List.replicate_zero, List.nil_append, List.cons_append]
  repeat' (first | (refine aw0m ?_) | (refine ap2 ?_ ?_ <;> first | exact True.intro | intro h) | (refine aw1m ?_) | (refine abx ?_; intro bb) | (refine abz ?_; intro bz) | (refine ahv ?_; intro v' hv') | (refine aac ?_; intro ac cc) | (refine aw2 ?_) | (refine ap4 ?_ ?_ <;> first | exact True.intro | intro h) | (with_reducible refine tr_two ?_ ?_))
  ((with_reducible apply fp_ret); exact res_1 rfl rfl)
  exact HR.out _ [] _ _ (by (exact atks)) ⟨by unfold markN; congr 1, rfl⟩
set_option maxHeartbeats 400000 in
theorem markByte_any (r : Hp) (k i : Nat) (hk : k ≤ 100000000 := by omega) (hi : i ≤ 1000000000 := by omega) : Tri Tryz.prog r 96 [.int .i64 k, .int .i64 i] [] fun w H => w = .int .u8 (markB k i).toNat ∧ H = [] := by
  refine Tri.free fun R HR => ?_
  have hm : markN k i ≤ 200000000000000 := by unfold markN; omega
  refine fn_of_sw Tryz.func96 rfl _ rfl ?_; simp only [Tryz.ntmps96, List.length_cons, List.length_nil, Nat.reduceAdd, Nat.reduceSub, List.replicate_succ, List.replicate_zero, List.nil_append, List.cons_append]
  repeat' (first | (refine aw0m ?_) | (refine ap2 ?_ ?_ <;> first | exact True.intro | intro h) | ((with_reducible apply kx_call (f := 58) (cap := [])); exact goesOf Tryz.func58 (by kernel_rfl) rfl; rfl; rfl; exact (mark_any r k i); (exact atks); rintro v' H' ⟨rfl, rfl⟩; all_goals ((try simp only [List.nil_append]); (refine apk ?_))) | (refine aw1m ?_) | (refine abx ?_; intro bb) | (refine abz ?_; intro bz) | (refine ahv ?_; intro v' hv') | (refine aac ?_; intro ac cc) | (refine aw2 ?_) | (refine ap4 ?_ ?_ <;> first | exact True.intro | intro h) | (with_reducible refine tr_two ?_ ?_))
  ((with_reducible apply fp_ret); exact res_1 rfl rfl)
  refine HR.out _ [] _ _ (by (exact atks)) ⟨?_, rfl⟩
  unfold markB
  generalize markN k i = m at *
  have h1 : m * 11400714819323198485 % 18446744073709551616 / 72057594037927936 < 256 := by
    have : m * 11400714819323198485 % 18446744073709551616 < 18446744073709551616 := Nat.mod_lt _ (by omega)
    omega
  have h2 : IntKind.u64.wrap ((m : Int) * 11400714819323198485) = ((m * 11400714819323198485 % 18446744073709551616 : Nat) : Int) := by
    simp [IntKind.wrap, IntKind.signed, IntKind.bits]
  rw [h2, show (2 : Int) ^ (56 : Int).toNat = ((72057594037927936 : Nat) : Int) from rfl, ← Int.natCast_ediv, UInt8.toNat_ofNat', Nat.mod_eq_of_lt h1]
  simp only [IntKind.wrap, IntKind.signed, IntKind.bits]
  congr 1
  simp; omega
set_option maxHeartbeats 400000 in
theorem markText_any (r : Hp) (k i : Nat) (_hk : k ≤ 100000000 := by omega) (_hi : i ≤ 1000000000 := by omega) : Tri Tryz.prog r 116 [.int .i64 k, .int .i64 i] [] fun w H => w = .string (bs (markT k i)) ∧ H = [] := by
  refine Tri.free fun R HR => ?_
  refine fn_of_sw Tryz.func116 rfl _ rfl ?_; simp only [Tryz.ntmps116, List.length_cons, List.length_nil, Nat.reduceAdd, Nat.reduceSub, List.replicate_succ, List.replicate_zero, List.nil_append, List.cons_append]
  repeat' (first | (refine aw0m ?_) | (refine ap2 ?_ ?_ <;> first | exact True.intro | intro h) | (refine aw1m ?_) | (refine abx ?_; intro bb) | (refine abz ?_; intro bz) | (refine ahv ?_; intro v' hv') | (refine aac ?_; intro ac cc) | (refine aw2 ?_) | (refine ap4 ?_ ?_ <;> first | exact True.intro | intro h) | (with_reducible refine tr_two ?_ ?_))
  ((with_reducible apply fp_ret); exact res_1 rfl rfl)
  refine HR.out _ _ _ [] (Takes.all) ⟨?_, rfl⟩
  congr 2
  have h0 : ∀ x : Nat, UInt8.ofNat ((x : Int) % 256).toNat = UInt8.ofNat x := fun x => by
    apply UInt8.toNat_inj.1
    rw [UInt8.toNat_ofNat', UInt8.toNat_ofNat']; omega
  have h1 : ∀ x : Nat, (x : Int) / 2 ^ Int.toNat 8 = ((x / 256 : Nat) : Int) := fun x => rfl
  have h2 : ∀ x : Nat, (x : Int) / 2 ^ Int.toNat 16 = ((x / 65536 : Nat) : Int) := fun x => rfl
  simp only [h1, h2, h0]
  rfl
set_option maxHeartbeats 400000 in
theorem markFile_any (r : Hp) (k i : Nat) (hk : k ≤ 100000000 := by omega) (hi : i ≤ 1000000000 := by omega) : Tri Tryz.prog r 93 [.int .i64 k, .int .i64 i] [] fun w H => w = .agg (encF ⟨markT k i, .slice none 0 0, []⟩).toArray ∧ H = [] := by
  refine Tri.free fun R HR => ?_
  refine fn_of_sw Tryz.func93 rfl _ rfl ?_; simp only [Tryz.ntmps93, List.length_cons, List.length_nil, Nat.reduceAdd, Nat.reduceSub, List.replicate_succ, List.replicate_zero, List.nil_append, List.cons_append]
  repeat' (first | (refine aw0m ?_) | (refine ap2 ?_ ?_ <;> first | exact True.intro | intro h) | ((with_reducible apply kx_call (f := 116) (cap := [])); exact goesOf Tryz.func116 (by kernel_rfl) rfl; rfl; rfl; exact (markText_any r k i); (exact atks); rintro v' H' ⟨rfl, rfl⟩; all_goals ((try simp only [List.nil_append]); (refine apk ?_))) | (refine aw1m ?_) | (refine abx ?_; intro bb) | (refine abz ?_; intro bz) | (refine ahv ?_; intro v' hv') | (refine aac ?_; intro ac cc) | (refine aw2 ?_) | (refine ap4 ?_ ?_ <;> first | exact True.intro | intro h) | (with_reducible refine tr_two ?_ ?_))
  ((with_reducible apply fp_ret); exact res_W rfl rfl (by (exact atk)) ty_agg ty_size rfl)
  exact HR.out _ _ _ [] Takes.all ⟨rfl, rfl⟩
set_option maxRecDepth 10000 in
set_option maxHeartbeats 1000000 in
theorem sameBytes_any (r : Hp) (v w : Value) (l m : List UInt8) (hv : U8S r v l) (hw : U8S r w m) : Tri Tryz.prog r 12 [v, w] [] fun u H => u = .bool (decide (l = m)) ∧ H = [] := by
  refine Tri.free fun R HR => ?_
  have hlm := maxI hv.2.1
  refine fn_of_sw Tryz.func12 rfl _ rfl ?_; simp only [Tryz.ntmps12, List.length_cons, List.length_nil, Nat.reduceAdd, Nat.reduceSub, List.replicate_succ, List.replicate_zero, List.nil_append, List.cons_append]
  repeat' (first | (refine aw0m ?_) | (refine ap2 ?_ ?_ <;> first | exact True.intro | intro h) | (refine aw1m ?_) | (refine abx ?_; intro bb) | (refine abz ?_; intro bz) | (refine ahv ?_; intro v' hv') | (refine aac ?_; intro ac cc) | (refine aw2 ?_) | (refine ap4 ?_ ?_ <;> first | exact True.intro | intro h) | (with_reducible refine tr_two ?_ ?_))
  · ((with_reducible apply fp_ret); exact res_1 rfl rfl)
    exact HR.out _ [] _ _ (by (exact atks)) ⟨by rw [decide_eq_false]; rintro rfl; exact h rfl, rfl⟩
  · refine sw_loop (fun gm t H' => ∃ k : Nat, gm = l.length + 1 - k ∧ (k ≤ l.length) ∧ (l.take k = m.take k) ∧ (∃ G, Takes [] H' G) ∧ (t.length = 26 ∧ t[0]? = some (v) ∧ t[1]? = some (w) ∧ t[5]? = some (.int .i64 k))) _ ⟨0, rfl, Nat.zero_le _, by simp, ⟨[], by (exact atks)⟩, rfl, (by first | rfl | exact congrArg some (congrArg (Value.int _) (by omega)) | (congr 2 <;> omega)), (by first | rfl | exact congrArg some (congrArg (Value.int _) (by omega)) | (congr 2 <;> omega)), (by first | rfl | exact congrArg some (congrArg (Value.int _) (by omega)) | (congr 2 <;> omega))⟩ ?_
    rintro gm t H' ⟨k, rfl, hk, ht, ⟨G, hp⟩, hlen, e0, e1, e5⟩
    revert e0 e1 e5; revert t; refine all_len (n := 26) ?_; iterate 26 intro uu'
    intro e0 e1 e5; cases e0; cases e1; cases e5
    refine sw_takeG hp ?_
    clear hp
    repeat' (first | (refine aw0m ?_) | (refine ap2 ?_ ?_ <;> first | exact True.intro | intro h) | (first | ((with_reducible apply sw_draw (id := 6) 9 [(0, true), (1, true), (2, true), (3, true), (4, true), (5, true), (6, true), (7, true), (8, true)] [] []); kernel_rfl; (exact atks); kernel_rfl; intro r' hl')) | (refine aw1m ?_) | (refine abx ?_; intro bb) | (refine abz ?_; intro bz) | (refine ahv ?_; intro v' hv') | (refine aac ?_; intro ac cc) | (refine aw2 ?_) | (refine ap4 ?_ ?_ <;> first | exact True.intro | intro h) | (with_reducible refine tr_two ?_ ?_))
    · ((with_reducible apply fp_ret); exact res_1 rfl rfl)
      exact HR.out _ [] _ _ (by (exact atks)) ⟨by rw [decide_eq_false]; rintro rfl; exact h rfl, rfl⟩
    · exact ⟨_, (by omega), k + 1, rfl, by omega, take_eqD (d := 0) ht (by omega) (by omega) (UInt8.toNat_inj.1 (by omega)), ⟨_, by (exact atks)⟩, rfl, (by first | rfl | exact congrArg some (congrArg (Value.int _) (by omega)) | (congr 2 <;> omega)), (by first | rfl | exact congrArg some (congrArg (Value.int _) (by omega)) | (congr 2 <;> omega)), (by first | rfl | exact congrArg some (congrArg (Value.int _) (by omega)) | (congr 2 <;> omega))⟩
    · ((with_reducible apply fp_ret); exact res_1 rfl rfl)
      exact HR.out _ [] _ _ (by (exact atks)) ⟨by rw [decide_eq_true (take_all2 ht (by omega) (by omega))], rfl⟩
set_option maxRecDepth 10000 in
set_option maxHeartbeats 1000000 in
theorem lentBytes_any (r : Hp) (v : Value) (l : List UInt8) (hv : U8S r v l) (hl : l.length ≤ 1000000) : Tri Tryz.prog r 49 [v] [] fun w H => ∃ a c, w = .slice a l.length c ∧ H = [RowC 5 1 (.slice a (l.length + 12) c) (l.length + 12) (u8s (l ++ marksL 12))] := by
  refine Tri.free fun R HR => ?_
  have hlm := maxI hv.2.1
  refine fn_of_sw Tryz.func49 rfl _ rfl ?_; simp only [Tryz.ntmps49, List.length_cons, List.length_nil, Nat.reduceAdd, Nat.reduceSub, List.replicate_succ, List.replicate_zero, List.nil_append, List.cons_append]
  repeat' (first | ((with_reducible apply kx_make0 (c := l.length + 12)); exact ty_el; exact ty_inf; rfl; rfl; (omega); (omega); intro bm; (refine apk ?_)) | ((with_reducible apply kx_appS (news := u8s l)); exact ty_el; exact ty_inf; rfl; rfl; rfl; rfl; exact hv; (exact atk); exact u8s_one l; (unfold maxLen; omega); (omega); intro a' c'; (refine apk ?_)) | (refine aw0 ?_) | (refine ap2 ?_ ?_ <;> first | exact True.intro | intro h) | (refine aw1 ?_) | (refine abx ?_; intro bb) | (refine abz ?_; intro bz) | (refine ahv ?_; intro v' hv') | (refine aac ?_; intro ac cc) | (refine aw2 ?_) | (refine ap4 ?_ ?_ <;> first | exact True.intro | intro h) | (with_reducible refine tr_two ?_ ?_))
  simp only [Nat.zero_add, List.nil_append]
  refine sw_loop (fun gm t H' => ∃ (k : Nat) (a : Option Addr) (c : Nat), gm = 13 - k ∧ (k ≤ 12) ∧ (∃ G, Takes [RowC 5 1 (.slice a (l.length + k) c) (l.length + k) (u8s (l ++ marksL k))] H' G) ∧ (t.length = 25 ∧ t[0]? = some (v) ∧ t[3]? = some (.slice a (l.length + k) c) ∧ t[4]? = some (.int .i64 k))) _ ⟨0, a', c', rfl, Nat.zero_le _, ⟨[], by rw [show marksL 0 = [] from rfl, List.append_nil]; (exact atks)⟩, rfl, (by first | rfl | exact congrArg some (congrArg (Value.int _) (by omega)) | (congr 2 <;> omega)), (by first | rfl | exact congrArg some (congrArg (Value.int _) (by omega)) | (congr 2 <;> omega)), (by first | rfl | exact congrArg some (congrArg (Value.int _) (by omega)) | (congr 2 <;> omega))⟩ ?_
  rintro gm t H' ⟨k, a, c, rfl, hk, ⟨G, hp⟩, hlen, e0, e3, e4⟩
  revert e0 e3 e4; revert t; refine all_len (n := 25) ?_; iterate 25 intro uu'
  intro e0 e3 e4; cases e0; cases e3; cases e4
  refine sw_takeG hp ?_
  clear hp
  refine sw_fact (by (exact atk)) (fun g h => RowC.cap h) ?_
  rintro ⟨hcap, hcm⟩
  have hcm := maxI hcm
  repeat' (first | (refine aw0m ?_) | (refine ap2 ?_ ?_ <;> first | exact True.intro | intro h) | ((with_reducible apply kx_call (f := 96) (cap := [])); exact goesOf Tryz.func96 (by kernel_rfl) rfl; rfl; rfl; exact (markByte_any r 1 k); (exact atks); rintro v' H' ⟨rfl, rfl⟩; all_goals ((try simp only [List.nil_append]); (refine apk ?_))) | (first | ((with_reducible apply kx_bs1); exact ty_el; exact ty_inf; rfl; rfl; rfl; intro bz; (refine apk ?_)) | ((with_reducible apply kx_bsN); exact ty_el; exact ty_inf; rfl; rfl; rfl; intro bz; (refine apk ?_))) | (first | ((with_reducible apply kx_append1); exact ty_el; exact ty_inf; rfl; rfl; rfl; (exact atk); (exact atk); rfl; (omega); intro a' c'; (refine apk ?_)) | ((with_reducible apply kx_appendN); exact ty_el; exact ty_inf; rfl; rfl; rfl; rfl; (exact atk); (exact atk); rfl; rfl; (omega); intro a' c'; (refine apk ?_))) | (refine aw1m ?_) | (refine abx ?_; intro bb) | (refine abz ?_; intro bz) | (refine ahv ?_; intro v' hv') | (refine aac ?_; intro ac cc) | (refine aw2 ?_) | (refine ap4 ?_ ?_ <;> first | exact True.intro | intro h) | (with_reducible refine tr_two ?_ ?_))
  · exact ⟨_, (by omega), k + 1, a', c', rfl, by omega, ⟨_, by rw [marksL_succ]; simp only [u8s, List.map_append, List.map_cons, List.map_nil, List.append_assoc]; (exact atks)⟩, rfl, (by first | rfl | exact congrArg some (congrArg (Value.int _) (by omega)) | (congr 2 <;> omega)), (by first | rfl | exact congrArg some (congrArg (Value.int _) (by omega)) | (congr 2 <;> omega)), (by first | rfl | exact congrArg some (congrArg (Value.int _) (by omega)) | (congr 2 <;> omega))⟩
  · obtain rfl : k = 12 := by omega
    ((with_reducible apply fp_ret); exact res_1 rfl rfl)
    exact HR.out _ [] _ _ (by (exact atks)) ⟨_, _, rfl, rfl⟩
set_option maxRecDepth 10000 in
set_option maxHeartbeats 2000000 in
theorem keptBytes_any (r : Hp) (a : Option Addr) (c : Nat) (w : Value) (l : List UInt8) (hc : l.length + 12 ≤ c) (hv : U8S r (.slice a (l.length + 12) c) (l ++ marksL 12)) (hw : U8S r w l) : Tri Tryz.prog r 52 [.slice a l.length c, w] [] fun u H => u = .bool true ∧ H = [] := by
  refine Tri.free fun R HR => ?_
  have hlen : (l ++ marksL 12).length = l.length + 12 := by simp [marksL]
  have hlm : l.length + 12 ≤ 9223372036854775807 := by have := maxI hv.2.1; omega
  refine fn_of_sw Tryz.func52 rfl _ rfl ?_; simp only [Tryz.ntmps52, List.length_cons, List.length_nil, Nat.reduceAdd, Nat.reduceSub, List.replicate_succ, List.replicate_zero, List.nil_append, List.cons_append]
  repeat' (first | (refine aw0m ?_) | (refine ap2 ?_ ?_ <;> first | exact True.intro | intro h) | (refine aw1m ?_) | (refine abx ?_; intro bb) | (refine abz ?_; intro bz) | (refine ahv ?_; intro v' hv') | (refine aac ?_; intro ac cc) | (refine aw2 ?_) | (refine ap4 ?_ ?_ <;> first | exact True.intro | intro h) | (with_reducible refine tr_two ?_ ?_))
  refine sw_loop (fun gm t H' => ∃ k : Nat, gm = l.length + 13 - k ∧ (k ≤ l.length + 12) ∧ (∃ G, Takes [] H' G) ∧ (t.length = 58 ∧ t[1]? = some (w) ∧ t[5]? = some (.slice a (l.length + 12) c) ∧ t[6]? = some (.int .i64 k))) _ ⟨0, rfl, Nat.zero_le _, ⟨[], by (exact atks)⟩, rfl, (by first | rfl | exact congrArg some (congrArg (Value.int _) (by omega)) | (congr 2 <;> omega)), (by first | rfl | exact congrArg some (congrArg (Value.int _) (by omega)) | (congr 2 <;> omega)), (by first | rfl | exact congrArg some (congrArg (Value.int _) (by omega)) | (congr 2 <;> omega))⟩ ?_
  rintro gm t H' ⟨k, rfl, hk, ⟨G, hp⟩, hlen, e1, e5, e6⟩
  revert e1 e5 e6; revert t; refine all_len (n := 58) ?_; iterate 58 intro uu'
  intro e1 e5 e6; cases e1; cases e5; cases e6
  refine sw_takeG hp ?_
  clear hp
  by_cases hkl : k < l.length
  · have he : (l ++ marksL 12).getD k 0 = l.getD k 0 := by simp [List.getElem?_append_left hkl]
    repeat' (first | (refine aw0m ?_) | (refine ap2 ?_ ?_ <;> first | exact True.intro | intro h) | (first | ((with_reducible apply sw_draw (id := 7) 35 [(0, true), (1, true), (2, true), (3, true), (4, true), (5, true), (6, true), (7, true), (8, true), (9, true), (10, true), (11, true), (12, true), (13, true), (14, true), (15, true), (16, true), (17, true), (18, true), (19, true), (20, true), (21, true), (22, true), (23, true), (24, true), (25, true), (26, true), (27, true), (28, true), (29, true), (30, false), (31, true), (32, true), (33, true), (34, true)] [] []); kernel_rfl; (exact atks); kernel_rfl; intro r' hl')) | (refine aw1m ?_) | (refine abx ?_; intro bb) | (refine abz ?_; intro bz) | (refine ahv ?_; intro v' hv') | (refine aac ?_; intro ac cc) | (refine aw2 ?_) | (refine ap4 ?_ ?_ <;> first | exact True.intro | intro h) | (with_reducible refine tr_two ?_ ?_))
    all_goals first | (rw [he] at h; exact absurd rfl h) | exact ⟨_, (by omega), k + 1, rfl, by omega, ⟨_, by (exact atks)⟩, rfl, (by first | rfl | exact congrArg some (congrArg (Value.int _) (by omega)) | (congr 2 <;> omega)), (by first | rfl | exact congrArg some (congrArg (Value.int _) (by omega)) | (congr 2 <;> omega)), (by first | rfl | exact congrArg some (congrArg (Value.int _) (by omega)) | (congr 2 <;> omega))⟩
  · by_cases hk2 : k < l.length + 12
    · obtain ⟨j, rfl⟩ : ∃ j, k = l.length + j := ⟨k - l.length, by omega⟩
      have he : (l ++ marksL 12).getD (l.length + j) 0 = markB 1 j := by
        simp only [List.getD_eq_getElem?_getD]
        rw [List.getElem?_append_right (by omega)]
        simp [marksL, show j < 12 by omega]
      repeat' (first | (refine aw0m ?_) | (refine ap2 ?_ ?_ <;> first | exact True.intro | intro h) | (first | ((with_reducible apply sw_draw (id := 7) 35 [(0, true), (1, true), (2, true), (3, true), (4, true), (5, true), (6, true), (7, true), (8, true), (9, true), (10, true), (11, true), (12, true), (13, true), (14, true), (15, true), (16, true), (17, true), (18, true), (19, true), (20, true), (21, true), (22, true), (23, true), (24, true), (25, true), (26, true), (27, true), (28, true), (29, true), (30, false), (31, true), (32, true), (33, true), (34, true)] [] []); kernel_rfl; (exact atks); kernel_rfl; intro r' hl')) | ((with_reducible apply kx_call (f := 96) (cap := [])); exact goesOf Tryz.func96 (by kernel_rfl) rfl; rfl; rfl; exact (by rw [show (((l.length + j : Nat) : Int) - (l.length : Nat)) = ((j : Nat) : Int) by omega]; exact markByte_any _ 1 j); (exact atks); rintro v' H' ⟨rfl, rfl⟩; all_goals ((try simp only [List.nil_append]); (refine apk ?_))) | (refine aw1m ?_) | (refine abx ?_; intro bb) | (refine abz ?_; intro bz) | (refine ahv ?_; intro v' hv') | (refine aac ?_; intro ac cc) | (refine aw2 ?_) | (refine ap4 ?_ ?_ <;> first | exact True.intro | intro h) | (with_reducible refine tr_two ?_ ?_))
      all_goals first | (rw [he] at h; exact absurd rfl h) | exact ⟨_, (by omega), l.length + j + 1, rfl, by omega, ⟨_, by (exact atks)⟩, rfl, (by first | rfl | exact congrArg some (congrArg (Value.int _) (by omega)) | (congr 2 <;> omega)), (by first | rfl | exact congrArg some (congrArg (Value.int _) (by omega)) | (congr 2 <;> omega)), (by first | rfl | exact congrArg some (congrArg (Value.int _) (by omega)) | (congr 2 <;> omega))⟩
    · repeat' (first | (refine aw0m ?_) | (refine ap2 ?_ ?_ <;> first | exact True.intro | intro h) | (refine aw1m ?_) | (refine abx ?_; intro bb) | (refine abz ?_; intro bz) | (refine ahv ?_; intro v' hv') | (refine aac ?_; intro ac cc) | (refine aw2 ?_) | (refine ap4 ?_ ?_ <;> first | exact True.intro | intro h) | (with_reducible refine tr_two ?_ ?_))
      ((with_reducible apply fp_ret); exact res_1 rfl rfl)
      exact HR.out _ [] _ _ (by (exact atks)) ⟨rfl, rfl⟩
end Go.Proofs.YtfgkhkpngnhimaaGreat
