
/- mudlarkkit: Same, Lent, Kept of files; SameDocs; FilesOf: their contracts. -/
import Derived.Test.YtohpeoakdgckfaaGreatEm
import Derived.Test.YtohpeoakdgckfaaGreatPu
import Derived.Test.YtohpeoakdgckfaaGreatSx
namespace Go.Proofs.YtohpeoakdgckfaaGreat
open Go.RowKit Sx

def markN (k i : Nat) : Nat := 1000003 * (k + 7) + i
def markB (k i : Nat) : UInt8 := UInt8.ofNat (markN k i * 11400714819323198485 % 18446744073709551616 / 72057594037927936)
/-- A text's mark. -/
def markT (k i : Nat) : List UInt8 := [35, UInt8.ofNat k, UInt8.ofNat (k / 256), UInt8.ofNat (k / 65536), 47, UInt8.ofNat i, UInt8.ofNat (i / 256), UInt8.ofNat (i / 65536)]
/-- The marks behind a lent slice. -/
def marksL (n : Nat) : List UInt8 := (List.range n).map (markB 1)
theorem marksL_succ (n : Nat) : marksL (n + 1) = marksL n ++ [markB 1 n] := by simp [marksL, List.range_succ]
set_option maxHeartbeats 400000 in
theorem mark_any (r : Hp) (k i : Nat) (hk : k ≤ 100000000 := by omega) (hi : i ≤ 1000000000 := by omega) : Tri Tryz.prog r 121 [.int .i64 k, .int .i64 i] [] fun w H => w = .int .i64 (markN k i) ∧ H = [] := by
  refine Tri.free fun R HR => ?_
  refine fn_of_sw Tryz.func121 rfl _ rfl ?_; refine aen Tryz.ntmps121 ?_
  repeat' (first | refine aw0m ?_ | (refine ap2 ?_ ?_ <;> try intro h) | refine aw1m ?_ | (refine abx ?_; intro bb) | (refine abz ?_; intro bz) | (refine ahv ?_; intro v' hv') | (refine aac ?_; intro ac cc) | refine aw2 ?_ | (refine ap4 ?_ ?_ <;> try intro h) | apply True.intro)
  ((with_reducible apply fp_ret); exact res_1 rfl rfl)
  exact HR.out _ [] _ _ (by (exact atks)) ⟨by unfold markN; congr 1, rfl⟩
set_option maxHeartbeats 400000 in
theorem markByte_any (r : Hp) (k i : Nat) (hk : k ≤ 100000000 := by omega) (hi : i ≤ 1000000000 := by omega) : Tri Tryz.prog r 51 [.int .i64 k, .int .i64 i] [] fun w H => w = .int .u8 (markB k i).toNat ∧ H = [] := by
  refine Tri.free fun R HR => ?_
  have hm : markN k i ≤ 200000000000000 := by unfold markN; omega
  refine fn_of_sw Tryz.func51 rfl _ rfl ?_; refine aen Tryz.ntmps51 ?_
  repeat' (first | refine aw0m ?_ | (refine ap2 ?_ ?_ <;> try intro h) | (refine acl Tryz.func121 ?_; refine acr (mark_any r k i) ?_; rintro v' H' ⟨rfl, rfl⟩; all_goals refine apl ?_) | refine aw1m ?_ | (refine abx ?_; intro bb) | (refine abz ?_; intro bz) | (refine ahv ?_; intro v' hv') | (refine aac ?_; intro ac cc) | refine aw2 ?_ | (refine ap4 ?_ ?_ <;> try intro h) | apply True.intro)
  ((with_reducible apply fp_ret); exact res_1 rfl rfl)
  refine HR.out _ [] _ _ (by (exact atks)) ⟨?_, rfl⟩
  unfold markB
  generalize markN k i = m at *
  have h1 : m * 11400714819323198485 % 18446744073709551616 / 72057594037927936 < 256 := by
    have : m * 11400714819323198485 % 18446744073709551616 < 18446744073709551616 := Nat.mod_lt _ (by omega)
    omega
  have h2 : IntKind.u64.wrap ((m : Int) * 11400714819323198485) = ((m * 11400714819323198485 % 18446744073709551616 : Nat) : Int) := by
    simp [IntKind.wrap, IntKind.signed, IntKind.bits]
  rw [h2, show (2 : Int) ^ (56 : Int).toNat = ((72057594037927936 : Nat) : Int) from rfl, ← Int.natCast_ediv, UInt8.toNat_ofNat', Nat.mod_eq_of_lt h1]
  simp only [IntKind.wrap, IntKind.signed, IntKind.bits]
  congr 1
  simp; omega
set_option maxHeartbeats 400000 in
theorem markText_any (r : Hp) (k i : Nat) (_hk : k ≤ 100000000 := by omega) (_hi : i ≤ 1000000000 := by omega) : Tri Tryz.prog r 78 [.int .i64 k, .int .i64 i] [] fun w H => w = .string (bs (markT k i)) ∧ H = [] := by
  refine Tri.free fun R HR => ?_
  refine fn_of_sw Tryz.func78 rfl _ rfl ?_; refine aen Tryz.ntmps78 ?_
  repeat' (first | refine aw0m ?_ | (refine ap2 ?_ ?_ <;> try intro h) | refine aw1m ?_ | (refine abx ?_; intro bb) | (refine abz ?_; intro bz) | (refine ahv ?_; intro v' hv') | (refine aac ?_; intro ac cc) | refine aw2 ?_ | (refine ap4 ?_ ?_ <;> try intro h) | apply True.intro)
  ((with_reducible apply fp_ret); exact res_1 rfl rfl)
  refine HR.out _ _ _ [] (Takes.all) ⟨?_, rfl⟩
  congr 2
  have h0 : ∀ x : Nat, UInt8.ofNat ((x : Int) % 256).toNat = UInt8.ofNat x := fun x => by
    apply UInt8.toNat_inj.1
    rw [UInt8.toNat_ofNat', UInt8.toNat_ofNat']; omega
  have h1 : ∀ x : Nat, (x : Int) / 2 ^ Int.toNat 8 = ((x / 256 : Nat) : Int) := fun x => rfl
  have h2 : ∀ x : Nat, (x : Int) / 2 ^ Int.toNat 16 = ((x / 65536 : Nat) : Int) := fun x => rfl
  simp only [h1, h2, h0]
  rfl
set_option maxHeartbeats 400000 in
theorem markFile_any (r : Hp) (k i : Nat) (hk : k ≤ 100000000 := by omega) (hi : i ≤ 1000000000 := by omega) : Tri Tryz.prog r 30 [.int .i64 k, .int .i64 i] [] fun w H => w = .agg (encF ⟨markT k i, .slice none 0 0, []⟩).toArray ∧ H = [] := by
  refine Tri.free fun R HR => ?_
  refine fn_of_sw Tryz.func30 rfl _ rfl ?_; refine aen Tryz.ntmps30 ?_
  repeat' (first | refine aw0m ?_ | (refine ap2 ?_ ?_ <;> try intro h) | (refine acl Tryz.func78 ?_; refine acr (markText_any r k i) ?_; rintro v' H' ⟨rfl, rfl⟩; all_goals refine apl ?_) | refine aw1m ?_ | (refine abx ?_; intro bb) | (refine abz ?_; intro bz) | (refine ahv ?_; intro v' hv') | (refine aac ?_; intro ac cc) | refine aw2 ?_ | (refine ap4 ?_ ?_ <;> try intro h) | apply True.intro)
  ((with_reducible apply fp_ret); exact res_W rfl rfl (by (exact atk)) ty_agg ty_size rfl)
  exact HR.out _ _ _ [] Takes.all ⟨rfl, rfl⟩
set_option maxRecDepth 10000 in
set_option maxHeartbeats 1000000 in
theorem lentBytes_any (r : Hp) (v : Value) (l : List UInt8) (hv : U8S r v l) (hl : l.length ≤ 1000000) : Tri Tryz.prog r 15 [v] [] fun w H => ∃ a c, w = .slice a l.length c ∧ H = [RowC 5 1 (.slice a (l.length + 12) c) (l.length + 12) (u8s (l ++ marksL 12))] := by
  refine Tri.free fun R HR => ?_
  have hlm := maxI hv.2.1
  refine fn_of_sw Tryz.func15 rfl _ rfl ?_; refine aen Tryz.ntmps15 ?_
  repeat' (first | ((with_reducible apply kx_make0 (c := l.length + 12)); exact ty_el; exact ty_inf; rfl; rfl; (omega); (omega); intro bm; (refine apk ?_)) | ((with_reducible apply kx_appS (news := u8s l)); exact ty_el; exact ty_inf; rfl; rfl; rfl; rfl; exact hv; (exact atk); exact u8s_one l; (unfold maxLen; omega); (omega); intro a' c'; (refine apk ?_)) | refine aw0 ?_ | (refine ap2 ?_ ?_ <;> try intro h) | refine aw1 ?_ | (refine abx ?_; intro bb) | (refine abz ?_; intro bz) | (refine ahv ?_; intro v' hv') | (refine aac ?_; intro ac cc) | refine aw2 ?_ | (refine ap4 ?_ ?_ <;> try intro h) | apply True.intro)
  simp only [Nat.zero_add, List.nil_append]
  refine sw_loop (fun gm t H' => ∃ (k : Nat) (a : Option Addr) (c : Nat), gm = 13 - k ∧ (k ≤ 12) ∧ (∃ G, Takes [RowC 5 1 (.slice a (l.length + k) c) (l.length + k) (u8s (l ++ marksL k))] H' G) ∧ Sls t 25 [(0, v), (3, .slice a (l.length + k) c), (4, .int .i64 k)]) _ ⟨0, a', c', rfl, Nat.zero_le _, ⟨[], by rw [show marksL 0 = [] from rfl, List.append_nil]; (exact atks)⟩, asls⟩ ?_
  rintro gm t H' ⟨k, a, c, rfl, hk, ⟨G, hp⟩, hs'⟩
  revert t; refine sls_all ?_; iterate 22 intro uu'
  refine sw_takeG hp ?_; clear hp
  refine sw_fact (by (exact atk)) (fun g h => RowC.cap h) ?_
  rintro ⟨hcap, hcm⟩
  have hcm := maxI hcm
  repeat' (first | refine aw0m ?_ | (refine ap2 ?_ ?_ <;> try intro h) | (refine acl Tryz.func51 ?_; refine acr (markByte_any r 1 k) ?_; rintro v' H' ⟨rfl, rfl⟩; all_goals refine apl ?_) | (first | ((with_reducible apply kx_bs1); exact ty_el; exact ty_inf; rfl; rfl; rfl; intro bz; (refine apk ?_)) | ((with_reducible apply kx_bsN); exact ty_el; exact ty_inf; rfl; rfl; rfl; intro bz; (refine apk ?_))) | (first | ((with_reducible apply kx_append1); exact ty_el; exact ty_inf; rfl; rfl; rfl; (exact atk); (exact atk); rfl; (omega); intro a' c'; (refine apk ?_)) | ((with_reducible apply kx_appendN); exact ty_el; exact ty_inf; rfl; rfl; rfl; rfl; (exact atk); (exact atk); rfl; rfl; (omega); intro a' c'; (refine apk ?_))) | refine aw1m ?_ | (refine abx ?_; intro bb) | (refine abz ?_; intro bz) | (refine ahv ?_; intro v' hv') | (refine aac ?_; intro ac cc) | refine aw2 ?_ | (refine ap4 ?_ ?_ <;> try intro h) | apply True.intro)
  · exact ⟨_, by omega, k + 1, a', c', rfl, by omega, ⟨_, by rw [marksL_succ]; simp only [u8s, List.map_append, List.map_cons, List.map_nil, List.append_assoc]; (exact atks)⟩, asls⟩
  · obtain rfl : k = 12 := by omega
    ((with_reducible apply fp_ret); exact res_1 rfl rfl)
    exact HR.out _ [] _ _ (by (exact atks)) ⟨_, _, rfl, rfl⟩
set_option maxRecDepth 10000 in
set_option maxHeartbeats 2000000 in
theorem keptBytes_any (r : Hp) (a : Option Addr) (c : Nat) (w : Value) (l : List UInt8) (hc : l.length + 12 ≤ c) (hv : U8S r (.slice a (l.length + 12) c) (l ++ marksL 12)) (hw : U8S r w l) : Tri Tryz.prog r 19 [.slice a l.length c, w] [] fun u H => u = .bool true ∧ H = [] := by
  refine Tri.free fun R HR => ?_
  have hlen : (l ++ marksL 12).length = l.length + 12 := by simp [marksL]
  have hlm : l.length + 12 ≤ 9223372036854775807 := by have := maxI hv.2.1; omega
  refine fn_of_sw Tryz.func19 rfl _ rfl ?_; refine aen Tryz.ntmps19 ?_
  repeat' (first | refine aw0m ?_ | (refine ap2 ?_ ?_ <;> try intro h) | refine aw1m ?_ | (refine abx ?_; intro bb) | (refine abz ?_; intro bz) | (refine ahv ?_; intro v' hv') | (refine aac ?_; intro ac cc) | refine aw2 ?_ | (refine ap4 ?_ ?_ <;> try intro h) | apply True.intro)
  refine sw_loop (fun gm t H' => ∃ k : Nat, gm = l.length + 13 - k ∧ (k ≤ l.length + 12) ∧ (∃ G, Takes [] H' G) ∧ Sls t 58 [(1, w), (5, .slice a (l.length + 12) c), (6, .int .i64 k)]) _ ⟨0, rfl, Nat.zero_le _, ⟨[], atks⟩, asls⟩ ?_
  rintro gm t H' ⟨k, rfl, hk, ⟨G, hp⟩, hs'⟩
  revert t; refine sls_all ?_; iterate 55 intro uu'
  refine sw_takeG hp ?_; clear hp
  by_cases hkl : k < l.length
  · have he : (l ++ marksL 12).getD k 0 = l.getD k 0 := by simp [List.getElem?_append_left hkl]
    repeat' (first | refine aw0m ?_ | (refine ap2 ?_ ?_ <;> try intro h) | (first | ((with_reducible apply sw_draw (id := 7) 35 [(0, true), (1, true), (2, true), (3, true), (4, true), (5, true), (6, true), (7, true), (8, true), (9, true), (10, true), (11, true), (12, true), (13, true), (14, true), (15, true), (16, true), (17, true), (18, true), (19, true), (20, true), (21, true), (22, true), (23, true), (24, true), (25, true), (26, true), (27, true), (28, true), (29, true), (30, false), (31, true), (32, true), (33, true), (34, true)] [] []); kernel_rfl; (exact atks); kernel_rfl; intro r' hl')) | refine aw1m ?_ | (refine abx ?_; intro bb) | (refine abz ?_; intro bz) | (refine ahv ?_; intro v' hv') | (refine aac ?_; intro ac cc) | refine aw2 ?_ | (refine ap4 ?_ ?_ <;> try intro h) | apply True.intro)
    all_goals first | (rw [he] at h; exact absurd rfl h) | exact ⟨_, by omega, k + 1, rfl, by omega, ⟨_, atks⟩, asls⟩
  · by_cases hk2 : k < l.length + 12
    · obtain ⟨j, rfl⟩ : ∃ j, k = l.length + j := ⟨k - l.length, by omega⟩
      have he : (l ++ marksL 12).getD (l.length + j) 0 = markB 1 j := by
        simp only [List.getD_eq_getElem?_getD]
        rw [List.getElem?_append_right (by omega)]
        simp [marksL, show j < 12 by omega]
      repeat' (first | refine aw0m ?_ | (refine ap2 ?_ ?_ <;> try intro h) | (first | ((with_reducible apply sw_draw (id := 7) 35 [(0, true), (1, true), (2, true), (3, true), (4, true), (5, true), (6, true), (7, true), (8, true), (9, true), (10, true), (11, true), (12, true), (13, true), (14, true), (15, true), (16, true), (17, true), (18, true), (19, true), (20, true), (21, true), (22, true), (23, true), (24, true), (25, true), (26, true), (27, true), (28, true), (29, true), (30, false), (31, true), (32, true), (33, true), (34, true)] [] []); kernel_rfl; (exact atks); kernel_rfl; intro r' hl')) | (refine acl Tryz.func51 ?_; refine acr (by rw [show (((l.length + j : Nat) : Int) - (l.length : Nat)) = ((j : Nat) : Int) by omega]; exact markByte_any _ 1 j) ?_; rintro v' H' ⟨rfl, rfl⟩; all_goals refine apl ?_) | refine aw1m ?_ | (refine abx ?_; intro bb) | (refine abz ?_; intro bz) | (refine ahv ?_; intro v' hv') | (refine aac ?_; intro ac cc) | refine aw2 ?_ | (refine ap4 ?_ ?_ <;> try intro h) | apply True.intro)
      all_goals first | (rw [he] at h; exact absurd rfl h) | exact ⟨_, by omega, l.length + j + 1, rfl, by omega, ⟨_, atks⟩, asls⟩
    · repeat' (first | refine aw0m ?_ | (refine ap2 ?_ ?_ <;> try intro h) | refine aw1m ?_ | (refine abx ?_; intro bb) | (refine abz ?_; intro bz) | (refine ahv ?_; intro v' hv') | (refine aac ?_; intro ac cc) | refine aw2 ?_ | (refine ap4 ?_ ?_ <;> try intro h) | apply True.intro)
      ((with_reducible apply fp_ret); exact res_1 rfl rfl)
      exact HR.out _ [] _ _ (by (exact atks)) ⟨rfl, rfl⟩
end Go.Proofs.YtohpeoakdgckfaaGreat

namespace Go.Proofs.YtohpeoakdgckfaaGreat
open Go.RowKit Sx

def Wide (r : Hp) (v : Value) (l : List UInt8) : Prop := ∃ a c, v = .slice a l.length c ∧ l.length + 12 ≤ c ∧ Sl r 1 (.slice a (l.length + 12) c) (l.length + 12) (u8s (l ++ marksL 12))
theorem Sl.narrow {r : Hp} {sz n m c : Nat} {a : Option Addr} {xs : List Value} (h : Sl r sz (.slice a n c) n xs) (hm : m ≤ n) : Sl r sz (.slice a m c) m (xs.take (m * sz)) := by
  have h1 := h.1
  have h2 := h.2.1
  have hms : m * sz ≤ n * sz := Nat.mul_le_mul_right _ hm
  refine ⟨by simp; omega, by omega, ?_⟩
  rcases h.2.2 with ⟨e, rfl⟩ | ⟨b, off, cap, cc, E, fz, e, h3, h4, h5⟩
  · obtain ⟨a', e⟩ := e
    injection e with e1 e2 e3; subst e1; subst e3
    left; obtain rfl : m = 0 := by omega
    exact ⟨⟨a, rfl⟩, rfl⟩
  · injection e with e1 e2 e3; subst e1; subst e3
    refine .inr ⟨b, off, _, cc, E, fz, rfl, by omega, h4, fun j hj => ?_⟩
    simp only [List.length_take] at hj
    rw [h5 j (by omega)]; simp
theorem Wide.sl {r : Hp} {v : Value} {l : List UInt8} (h : Wide r v l) : U8S r v l := by
  obtain ⟨a, c, rfl, hc, hs⟩ := h
  have := Sl.narrow (m := l.length) hs (by omega)
  unfold U8S; rw [show (u8s (l ++ marksL 12)).take (l.length * 1) = u8s l by simp [u8s]] at this; exact this
theorem Wide.mono {r r' : Hp} {v : Value} {l : List UInt8} (h : Wide r v l) (hr : sub r r') : Wide r' v l := by
  obtain ⟨a, c, e, hc, hs⟩ := h; exact ⟨a, c, e, hc, hs.mono hr⟩
theorem Wide.of {l : List UInt8} {a : Option Addr} {c : Nat} {g r : Hp} (h : RowC 5 1 (.slice a (l.length + 12) c) (l.length + 12) (u8s (l ++ marksL 12)) g) (hs : sub g r) : Wide r (.slice a l.length c) l :=
  ⟨a, c, rfl, (RowC.cap h).1, h.sl hs⟩
theorem keptW_any (r : Hp) (v w : Value) (l : List UInt8) (hv : Wide r v l) (hw : U8S r w l) : Tri Tryz.prog r 19 [v, w] [] fun u H => u = .bool true ∧ H = [] := by
  obtain ⟨a, c, rfl, hc, hs⟩ := hv
  exact keptBytes_any r a c w l hc (by unfold U8S; rw [show (l ++ marksL 12).length = l.length + 12 by simp [marksL]]; exact hs) hw
end Go.Proofs.YtohpeoakdgckfaaGreat

namespace Go.Proofs.YtohpeoakdgckfaaGreat
open Go.RowKit Sx

set_option maxHeartbeats 1000000 in
theorem sameFile_any (r : Hp) (f g : FileV) (hf : U8S r f.val f.data) (hg : U8S r g.val g.data) : Tri Tryz.prog r 48 [.agg (encF f).toArray, .agg (encF g).toArray] [] fun u H => u = .bool (decide (f.path = g.path) && decide (f.data = g.data)) ∧ H = [] := by
  refine Tri.free2 fun R HR => ?_
  unfold encF
  refine fn_of_sw Tryz.func48 rfl _ rfl ?_; refine aen Tryz.ntmps48 ?_
  repeat' (first | refine aw0m ?_ | (refine ap2 ?_ ?_ <;> try intro h) | (refine acl Tryz.func12 ?_; refine acr (sameBytes_any r f.val g.val f.data g.data hf hg) ?_; rintro v' H' ⟨rfl, rfl⟩; all_goals refine apl ?_) | refine aw1m ?_ | (refine abx ?_; intro bb) | (refine abz ?_; intro bz) | (refine ahv ?_; intro v' hv') | (refine aac ?_; intro ac cc) | refine aw2 ?_ | (refine ap4 ?_ ?_ <;> try intro h) | apply True.intro)
  · ((with_reducible apply fp_ret); exact res_1 rfl rfl)
    exact HR.out _ _ _ [] (by (exact atks)) ⟨by rw [decide_eq_true h]; simp, rfl⟩
  · ((with_reducible apply fp_ret); exact res_1 rfl rfl)
    exact HR.out _ _ _ [] (by (exact atks)) ⟨by rw [decide_eq_false h]; simp, rfl⟩
set_option maxHeartbeats 1000000 in
theorem lentFile_any (r : Hp) (f : FileV) (hf : U8S r f.val f.data) (hl : f.data.length ≤ 1000000) : Tri Tryz.prog r 29 [.agg (encF f).toArray] [] fun u H => ∃ a c, u = .agg (encF ⟨f.path, .slice a f.data.length c, f.data⟩).toArray ∧ H = [RowC 5 1 (.slice a (f.data.length + 12) c) (f.data.length + 12) (u8s (f.data ++ marksL 12))] := by
  refine Tri.free2 fun R HR => ?_
  unfold encF
  refine fn_of_sw Tryz.func29 rfl _ rfl ?_; refine aen Tryz.ntmps29 ?_
  repeat' (first | refine aw0m ?_ | (refine ap2 ?_ ?_ <;> try intro h) | (refine acl Tryz.func15 ?_; refine acr (lentBytes_any r f.val f.data hf hl) ?_; rintro v' H' ⟨a, c, rfl, rfl⟩; all_goals refine apl ?_) | refine aw1m ?_ | (refine abx ?_; intro bb) | (refine abz ?_; intro bz) | (refine ahv ?_; intro v' hv') | (refine aac ?_; intro ac cc) | refine aw2 ?_ | (refine ap4 ?_ ?_ <;> try intro h) | apply True.intro)
  ((with_reducible apply fp_ret); exact res_W rfl rfl (by (exact atk)) ty_agg ty_size rfl)
  exact HR.out _ _ _ [RowC _ _ _ _ _] (by (exact atks)) ⟨a, c, rfl, rfl⟩
set_option maxHeartbeats 1000000 in
theorem keptFile_any (r : Hp) (f g : FileV) (hf : Wide r f.val f.data) (hg : U8S r g.val g.data) (hp : f.path = g.path) (hd : f.data = g.data) : Tri Tryz.prog r 47 [.agg (encF f).toArray, .agg (encF g).toArray] [] fun u H => u = .bool true ∧ H = [] := by
  refine Tri.free2 fun R HR => ?_
  have h1 := sameFile_any r f g hf.sl hg
  rw [decide_eq_true hp, decide_eq_true hd] at h1
  have h2 := keptW_any r f.val g.val f.data hf (hd ▸ hg)
  unfold encF at h1 ⊢
  refine fn_of_sw Tryz.func47 rfl _ rfl ?_; refine aen Tryz.ntmps47 ?_
  repeat' (first | refine aw0m ?_ | (refine ap2 ?_ ?_ <;> try intro h) | (refine acl Tryz.func48 ?_; refine acr (h1) ?_; rintro v' H' ⟨rfl, rfl⟩; all_goals refine apl ?_) | (refine acl Tryz.func19 ?_; refine acr (h2) ?_; rintro v' H' ⟨rfl, rfl⟩; all_goals refine apl ?_) | refine aw1m ?_ | (refine abx ?_; intro bb) | (refine abz ?_; intro bz) | (refine ahv ?_; intro v' hv') | (refine aac ?_; intro ac cc) | refine aw2 ?_ | (refine ap4 ?_ ?_ <;> try intro h) | apply True.intro)
  all_goals
    ((with_reducible apply fp_ret); exact res_1 rfl rfl)
    exact HR.out _ _ _ [] (by (exact atks)) ⟨rfl, rfl⟩
theorem DocV.ext' {a b : DocV} (h1 : a.path = b.path) (h2 : a.lang = b.lang) (h3 : a.sum = b.sum) (h4 : a.size = b.size) : a = b := by
  cases a; cases b; simp_all
end Go.Proofs.YtohpeoakdgckfaaGreat
