/- slices.Clone of bytes; wire.Writer.Fixed, Text, Bytes: their contracts. -/
import Derived.Test.YtfgkhkpngnhimaaGreatWc
import Derived.Test.YtfgkhkpngnhimaaGreatBits
namespace Go.Proofs.YtfgkhkpngnhimaaGreat
open Go.RowKit Sx

attribute [local go_sem] Oper.semAt_some

abbrev U8R (v : Value) (l : List UInt8) : Ch := RowC 5 1 v l.length (u8s l)
abbrev U8S (r : Hp) (v : Value) (l : List UInt8) : Prop := Sl r 1 v l.length (u8s l)

theorem u8s_one (l : List UInt8) : (u8s l).all one? = true := by simp [u8s, List.all_eq_true, one?]
theorem Sl.news {r : Hp} {n c : Nat} {a : Addr} {xs : List Value} (h : Sl r 1 (.slice (some a) n c) n xs) (H : List Ch) : ∀ j u, xs[j]? = some u → Rd1 r H (a.add j) u := by
  intro j u hu
  obtain ⟨hj, rfl⟩ := List.getElem?_eq_some_iff.1 hu
  have hjn : j < n := by have := h.1; omega
  obtain ⟨b, off, u', e, h1, h2⟩ := h.at1 hjn
  cases e
  rw [add_none]
  rw [List.getElem?_eq_getElem hj] at h1
  cases h1
  exact h2 H

set_option maxHeartbeats 400000 in
theorem clone_any (r : Hp) (v : Value) (l : List UInt8) (hv : U8S r v l) (hl : l.length ≤ 100000000000000) : Tri Tryz.prog r 62 [v] [] fun w H => ∃ a c, w = .slice a l.length c ∧ H = [U8R w l] := by
  have hn := fun (a : Option Addr) (n c : Nat) (w : World) => Lib.run_eql_slice_nil (P := Tryz.prog) w 26 _ a n c 0 0 Tryz.underlying26
  have hall : (∃ ad n c, v = .slice (some ad) n c) ∨ (v = .slice none 0 0 ∧ l = []) := by
    rcases hv.2.2 with ⟨⟨a, rfl⟩, h0⟩ | ⟨b, off, cap, c, E, fz, rfl, h1, h2, h3⟩
    · cases a with
      | none => exact .inr ⟨rfl, by cases l <;> simp_all⟩
      | some ad => exact .inl ⟨ad, _, _, rfl⟩
    · exact .inl ⟨_, _, _, rfl⟩
  rcases hall with ⟨ad, nn, cap, rfl⟩ | ⟨rfl, rfl⟩
  rotate_left
  · refine tri_put (RowC.nil 5 1) ?_
    refine fn_of_sw Tryz.func62 rfl _ rfl ?_; simp only [Tryz.ntmps62, List.length_cons, List.length_nil, Nat.reduceAdd, Nat.reduceSub, List.replicate_succ, List.replicate_zero, List.nil_append, List.cons_append]
    repeat' (first | (refine ax0m ?_) | (refine abb ?_; intro b) | (with_reducible refine tr_two ?_ ?_) | (refine ax1m ?_) | (refine aac ?_; intro ac cc) | (refine ax2m ?_) | (refine ap3 ?_ ?_ <;> first | exact True.intro | intro h))
    ((with_reducible apply fp_ret); exact res_1 rfl rfl)
    exact ⟨_, _, rfl, rfl⟩
  · obtain ⟨a0, c0, e0⟩ := hv.form
    injection e0 with e1 e2 e3
    subst e2
    clear e1 e3
    have HV := hid hv
    have HL := hid hl
    clear hv hl
    by_cases h0 : l = []
    · subst h0
      refine fn_of_sw Tryz.func62 rfl _ rfl ?_; simp only [Tryz.ntmps62, List.length_cons, List.length_nil, Nat.reduceAdd, Nat.reduceSub, List.replicate_succ, List.replicate_zero, List.nil_append, List.cons_append]
      repeat' (first | (refine ax0m ?_) | (refine abb ?_; intro b) | (with_reducible refine tr_two ?_ ?_) | ((with_reducible apply kx_bs0 (E := 5) (z := .int .u8 0) (sz := 1) (by_ := 1)); kernel_rfl; kernel_rfl; intro bz; (refine apk ?_)) | ((with_reducible apply swo_imp (A := pt _ _) (B := U8R (.slice (some ⟨bz, 0, none⟩) 0 0) [])); (exact atk); (intro h e; exact RowC.of_pt (Nat.le_refl _) (Nat.zero_le _) rfl h e); (with_reducible apply kx_append0 (E := 5) (z := .int .u8 0) (sz := 1) (by_ := 1)); kernel_rfl; kernel_rfl; rfl; rfl; (exact atk); intro a' c' e; clear e; (refine apk ?_)) | (refine ax1m ?_) | (refine aac ?_; intro ac cc) | (refine ax2m ?_) | (refine ap3 ?_ ?_ <;> first | exact True.intro | intro h))
      ((with_reducible apply fp_ret); exact res_1 rfl rfl)
      exact ⟨_, _, rfl, rfl⟩
    · refine fn_of_sw Tryz.func62 rfl _ rfl ?_; simp only [Tryz.ntmps62, List.length_cons, List.length_nil, Nat.reduceAdd, Nat.reduceSub, List.replicate_succ, List.replicate_zero, List.nil_append, List.cons_append]
      repeat' (first | (refine ax0m ?_) | (refine abb ?_; intro b) | (with_reducible refine tr_two ?_ ?_) | ((with_reducible apply kx_bs0 (E := 5) (z := .int .u8 0) (sz := 1) (by_ := 1)); kernel_rfl; kernel_rfl; intro bz; (refine apk ?_)) | ((with_reducible apply swo_imp (A := pt _ _) (B := U8R (.slice (some ⟨bz, 0, none⟩) 0 0) [])); (exact atk); (intro h e; exact RowC.of_pt (Nat.le_refl _) (Nat.zero_le _) rfl h e); (with_reducible apply kx_append (E := 5) (z := .int .u8 0) (sz := 1) (by_ := 1) (news := u8s l)); kernel_rfl; kernel_rfl; rfl; rfl; rfl; rfl; (exact atk); exact (by simpa using HV.out.1); exact Sl.news HV.out _; exact u8s_one _; (have := HL.out; unfold maxLen; simp; omega); (have := HL.out; simp; omega); intro a' c'; (refine apk ?_)) | (refine ax1m ?_) | (refine aac ?_; intro ac cc) | (refine ax2m ?_) | (refine ap3 ?_ ?_ <;> first | exact True.intro | intro h))
      ((with_reducible apply fp_ret); exact res_1 rfl rfl)
      exact ⟨a', c', by simp, by simp [u8s, U8R]⟩

/-- The bytes the other way round. -/
def rev32 (n : Nat) : Nat := ofBytes (n / 16777216) (n / 65536 % 256) (n / 256 % 256) (n % 256)
set_option maxHeartbeats 400000 in
theorem rev_any (r : Hp) (n : Nat) (hn : n < 4294967296) : Tri Tryz.prog r 61 [.int .u32 n] [] fun w H => w = .int .u32 (rev32 n) ∧ H = [] := by
  have hm : ∀ a : Nat, (a &&& 16711935) < 4294967296 := fun a => Nat.lt_of_le_of_lt Nat.and_le_right (by omega)
  obtain ⟨b0, h0⟩ : ∃ b0, n % 256 = b0 := ⟨_, rfl⟩
  obtain ⟨b1, h1⟩ : ∃ b1, n / 256 % 256 = b1 := ⟨_, rfl⟩
  obtain ⟨b2, h2⟩ : ∃ b2, n / 65536 % 256 = b2 := ⟨_, rfl⟩
  obtain ⟨b3, h3⟩ : ∃ b3, n / 16777216 = b3 := ⟨_, rfl⟩
  have hnb : n = ofBytes b0 b1 b2 b3 := by rw [← h0, ← h1, ← h2, ← h3]; exact (ofBytes_eta n hn).symm
  have k1 : bits .or .u32 (bits .and .u32 ((n : Int) / 256) 16711935) (bits .and .u32 (n : Int) 16711935 * 256 % 4294967296) = ((ofBytes b1 b0 b3 b2 : Nat) : Int) := by
    have e1 := (bits32 (n / 256) 16711935 (by omega) (by omega)).1
    have e2 := (bits32 n 16711935 hn (by omega)).1
    have e3 : (n &&& 16711935) * 256 < 4294967296 := by rw [and_mask]; omega
    have e4 := (bits32 (n / 256 &&& 16711935) ((n &&& 16711935) * 256) (hm _) e3).2
    rw [show ((16711935 : Nat) : Int) = 16711935 from rfl] at e1 e2
    rw [Int.natCast_ediv] at e1
    rw [show ((256 : Nat) : Int) = 256 from rfl] at e1
    rw [e1, e2, show (((n &&& 16711935 : Nat) : Int) * 256 % 4294967296) = (((n &&& 16711935) * 256 : Nat) : Int) by omega, e4, hnb, rev_pairs b0 b1 b2 b3 (by omega) (by omega) (by omega) (by omega)]
  have k2 : bits .or .u32 (((ofBytes b1 b0 b3 b2 : Nat) : Int) / 65536) (((ofBytes b1 b0 b3 b2 : Nat) : Int) * 65536 % 4294967296) = ((rev32 n : Nat) : Int) := by
    have hb : ofBytes b1 b0 b3 b2 < 4294967296 := by unfold ofBytes; omega
    have e4 := (bits32 (ofBytes b1 b0 b3 b2 / 65536) (ofBytes b1 b0 b3 b2 * 65536 % 4294967296) (by omega) (by omega)).2
    rw [rev_halves b0 b1 b2 b3 (by omega) (by omega) (by omega) (by omega)] at e4
    rw [show (((ofBytes b1 b0 b3 b2 : Nat) : Int) / 65536) = ((ofBytes b1 b0 b3 b2 / 65536 : Nat) : Int) by omega, show (((ofBytes b1 b0 b3 b2 : Nat) : Int) * 65536 % 4294967296) = ((ofBytes b1 b0 b3 b2 * 65536 % 4294967296 : Nat) : Int) by omega, e4]
    unfold rev32; rw [h0, h1, h2, h3]
  have K := hid (And.intro k1 k2)
  clear k1 k2 hm h0 h1 h2 h3 hnb
  refine fn_of_sw Tryz.func61 rfl _ rfl ?_; simp only [Tryz.ntmps61, List.length_cons, List.length_nil, Nat.reduceAdd, Nat.reduceSub, List.replicate_succ, List.replicate_zero, List.nil_append, List.cons_append]
  repeat' (first | (refine ax0m ?_) | (refine abb ?_; intro b) | (with_reducible refine tr_two ?_ ?_) | (refine ax1m ?_) | (refine aac ?_; intro ac cc) | (refine ax2m ?_) | (refine ap3 ?_ ?_ <;> first | exact True.intro | intro h))
  ((with_reducible apply fp_ret); exact res_1 rfl rfl)
  exact ⟨by rw [K.out.1, K.out.2], rfl⟩

def kk : Nat → Int
  | 0 => 24
  | 1 => 16
  | 2 => 8
  | 3 => 0
  | _ => -8
theorem rev_byte (n : Nat) (hn : n < 4294967296) : (((rev32 n : Nat) : Int) / 16777216 % 256 = (UInt8.ofNat n).toNat ∧ ((rev32 n : Nat) : Int) / 65536 % 256 = (UInt8.ofNat (n / 256)).toNat) ∧ ((rev32 n : Nat) : Int) / 256 % 256 = (UInt8.ofNat (n / 65536)).toNat ∧ ((rev32 n : Nat) : Int) % 256 = (UInt8.ofNat (n / 16777216)).toNat := by
  have h : ∀ x : Nat, (UInt8.ofNat x).toNat = x % 256 := fun x => by simp
  rw [h, h, h, h]
  obtain ⟨b0, h0⟩ : ∃ b0, n % 256 = b0 := ⟨_, rfl⟩
  obtain ⟨b1, h1⟩ : ∃ b1, n / 256 % 256 = b1 := ⟨_, rfl⟩
  obtain ⟨b2, h2⟩ : ∃ b2, n / 65536 % 256 = b2 := ⟨_, rfl⟩
  obtain ⟨b3, h3⟩ : ∃ b3, n / 16777216 = b3 := ⟨_, rfl⟩
  have e : rev32 n = b3 + 256 * b2 + 65536 * b1 + 16777216 * b0 := by unfold rev32 ofBytes; rw [h0, h1, h2, h3]
  rw [h0, h1, h2, show n / 16777216 % 256 = b3 by omega]
  have : b0 < 256 := by omega
  have : b1 < 256 := by omega
  have : b2 < 256 := by omega
  have : b3 < 256 := by omega
  have key : ∀ q : Nat, q = b3 + 256 * b2 + 65536 * b1 + 16777216 * b0 → q / 16777216 % 256 = b0 ∧ q / 65536 % 256 = b1 ∧ q / 256 % 256 = b2 ∧ q % 256 = b3 := fun q hq => by clear e h0 h1 h2 h3; omega
  obtain ⟨k0, k1, k2, k3⟩ := key _ e
  have e2 : b2 = n / 65536 % 256 := h2.symm
  refine ⟨⟨?_, ?_⟩, ?_, ?_⟩
  · rw [← k0]; simp
  · rw [← k1]; simp
  · rw [← k2]; simp
  · rw [← k3]; simp

set_option maxRecDepth 10000 in
set_option maxHeartbeats 1000000 in
theorem wfixed_any (r : Hp) (g : Nat) (v : Value) (bad : Bool) (l : List UInt8) (n : Nat) (hn : n < 4294967296) (hl : l.length ≤ 70000000000000) :
    Tri Tryz.prog r 26 [.pointer (some ⟨g, 0, none⟩), .int .u32 n] [pt g (wri v bad), U8R v l] fun _ H => ∃ v', H = [pt g (wri v' bad), U8R v' (l ++ fixed n)] := by
  refine Tri.free fun R HR => ?_
  have HL := hid hl
  have HB := hid (rev_byte n hn)
  have HN := hid hn
  have hrl : rev32 n < 4294967296 := by unfold rev32 ofBytes; omega
  obtain ⟨q, hq⟩ : ∃ q, rev32 n = q := ⟨_, rfl⟩
  have HQ := hid hq
  rw [hq] at HB hrl
  clear hl hn hq
  unfold wri
  refine fn_of_sw Tryz.func26 rfl _ rfl ?_; simp only [Tryz.ntmps26, List.length_cons, List.length_nil, Nat.reduceAdd, Nat.reduceSub, List.replicate_succ, List.replicate_zero, List.nil_append, List.cons_append]
  repeat' (first | (refine ax0m ?_) | (refine abb ?_; intro b) | (with_reducible refine tr_two ?_ ?_) | ((with_reducible apply kx_call (f := 61) (cap := [])); exact goesOf Tryz.func61 (by kernel_rfl) rfl; rfl; rfl; exact (rev_any _ _ HN.out); (exact atks); rintro v' H' ⟨rfl, rfl⟩; all_goals ((try simp only [List.nil_append]); (refine apk ?_))) | (refine ax1m ?_) | (refine aac ?_; intro ac cc) | (refine ax2m ?_) | (refine ap3 ?_ ?_ <;> first | exact True.intro | intro h))
  rw [HQ.out]
  refine sw_loop (fun gg t H' => ∃ (j : Nat) (v' : Value), gg = 5 - j ∧ j ≤ 4 ∧ Takes [pt g (.cells [v', .bool bad].toArray 51 (0, 0)), U8R v' (l ++ (fixed n).take j)] H' [] ∧
      (t.length = 27 ∧ t[0]? = some (.pointer (some ⟨g, 0, none⟩)) ∧ t[4]? = some (.int .u32 q) ∧ t[5]? = some (.int .i64 (kk j)))) 5
    ⟨0, v, rfl, by omega, by simp; (exact atks), rfl, rfl, rfl, rfl⟩ ?_
  rintro gg t H' ⟨j, v', rfl, hj, hp, hlen, e0, e4, e5⟩
  revert e0 e4 e5; revert t; refine all_len (n := 27) ?_; intro u0 u1 u2 u3 u4 u5 u6 u7 u8 u9 u10 u11 u12 u13 u14 u15 u16 u17 u18 u19 u20 u21 u22 u23 u24 u25 u26 e0 e4 e5; cases e0; cases e4; cases e5
  refine sw_take hp ?_
  clear hp
  obtain rfl | rfl | rfl | rfl | rfl : j = 0 ∨ j = 1 ∨ j = 2 ∨ j = 3 ∨ j = 4 := by omega
  · rw [show kk 0 = 24 from rfl]
    repeat' (first | (refine ax0m ?_) | (refine abb ?_; intro b) | (with_reducible refine tr_two ?_ ?_) | (refine ax1m ?_) | (refine aac ?_; intro ac cc) | (refine ax2m ?_) | (refine ap3 ?_ ?_ <;> first | exact True.intro | intro h))
    ((with_reducible apply sw_draw (id := 4) 11 [(0, true), (1, true), (2, true), (3, true), (4, true), (5, true), (6, true), (7, true), (8, true), (9, false), (10, false)] [(11, false), (12, false), (13, false)] [(g, .cells [v', .bool bad].toArray 51 (0, 0))]); kernel_rfl; (exact atks); kernel_rfl; intro r' hl')
    have hb0 := hl'.2 _ List.mem_cons_self
    repeat' (first | (refine ax0m ?_) | (refine abb ?_; intro b) | (with_reducible refine tr_two ?_ ?_) | ((with_reducible apply kx_bs1 (E := 5) (z := .int .u8 0) (by_ := 1)); kernel_rfl; kernel_rfl; rfl; rfl; rfl; intro bz; (refine apk ?_)) | ((with_reducible apply kx_append1 (E := 5) (z := .int .u8 0) (by_ := 1)); kernel_rfl; kernel_rfl; rfl; rfl; rfl; (exact atk); (exact atk); rfl; (have := HL.out; simp [fixed]; omega); intro a' c'; (refine apk ?_)) | (refine ax1m ?_) | (refine aac ?_; intro ac cc) | (refine ax2m ?_) | (refine ap3 ?_ ?_ <;> first | exact True.intro | intro h))
    refine ⟨_, by omega, 0 + 1, .slice a' ((l ++ (fixed n).take 0).length + 1) c', rfl, by omega, ?_, rfl, rfl, rfl, rfl⟩
    rw [show (q : Int) / 16777216 = ((UInt8.ofNat n).toNat : Int) by have := HB.out.1.1; omega]
    simp only [fixed, u8s, U8R, List.take_succ_cons, List.take_zero, List.map_append, List.map_cons, List.map_nil, List.length_append, List.length_cons, List.length_nil, List.append_assoc, List.nil_append, Nat.zero_add, Nat.add_zero]
    (exact atks)
  · rw [show kk 1 = 16 from rfl]
    repeat' (first | (refine ax0m ?_) | (refine abb ?_; intro b) | (with_reducible refine tr_two ?_ ?_) | (refine ax1m ?_) | (refine aac ?_; intro ac cc) | (refine ax2m ?_) | (refine ap3 ?_ ?_ <;> first | exact True.intro | intro h))
    ((with_reducible apply sw_draw (id := 4) 11 [(0, true), (1, true), (2, true), (3, true), (4, true), (5, true), (6, true), (7, true), (8, true), (9, false), (10, false)] [(11, false), (12, false), (13, false)] [(g, .cells [v', .bool bad].toArray 51 (0, 0))]); kernel_rfl; (exact atks); kernel_rfl; intro r' hl')
    have hb0 := hl'.2 _ List.mem_cons_self
    repeat' (first | (refine ax0m ?_) | (refine abb ?_; intro b) | (with_reducible refine tr_two ?_ ?_) | ((with_reducible apply kx_bs1 (E := 5) (z := .int .u8 0) (by_ := 1)); kernel_rfl; kernel_rfl; rfl; rfl; rfl; intro bz; (refine apk ?_)) | ((with_reducible apply kx_append1 (E := 5) (z := .int .u8 0) (by_ := 1)); kernel_rfl; kernel_rfl; rfl; rfl; rfl; (exact atk); (exact atk); rfl; (have := HL.out; simp [fixed]; omega); intro a' c'; (refine apk ?_)) | (refine ax1m ?_) | (refine aac ?_; intro ac cc) | (refine ax2m ?_) | (refine ap3 ?_ ?_ <;> first | exact True.intro | intro h))
    refine ⟨_, by omega, 1 + 1, .slice a' ((l ++ (fixed n).take 1).length + 1) c', rfl, by omega, ?_, rfl, rfl, rfl, rfl⟩
    rw [HB.out.1.2]
    simp only [fixed, u8s, U8R, List.take_succ_cons, List.take_zero, List.map_append, List.map_cons, List.map_nil, List.length_append, List.length_cons, List.length_nil, List.append_assoc, List.cons_append, List.nil_append, Nat.zero_add, Nat.reduceAdd, Nat.add_assoc]
    (exact atks)
  · rw [show kk 2 = 8 from rfl]
    repeat' (first | (refine ax0m ?_) | (refine abb ?_; intro b) | (with_reducible refine tr_two ?_ ?_) | (refine ax1m ?_) | (refine aac ?_; intro ac cc) | (refine ax2m ?_) | (refine ap3 ?_ ?_ <;> first | exact True.intro | intro h))
    ((with_reducible apply sw_draw (id := 4) 11 [(0, true), (1, true), (2, true), (3, true), (4, true), (5, true), (6, true), (7, true), (8, true), (9, false), (10, false)] [(11, false), (12, false), (13, false)] [(g, .cells [v', .bool bad].toArray 51 (0, 0))]); kernel_rfl; (exact atks); kernel_rfl; intro r' hl')
    have hb0 := hl'.2 _ List.mem_cons_self
    repeat' (first | (refine ax0m ?_) | (refine abb ?_; intro b) | (with_reducible refine tr_two ?_ ?_) | ((with_reducible apply kx_bs1 (E := 5) (z := .int .u8 0) (by_ := 1)); kernel_rfl; kernel_rfl; rfl; rfl; rfl; intro bz; (refine apk ?_)) | ((with_reducible apply kx_append1 (E := 5) (z := .int .u8 0) (by_ := 1)); kernel_rfl; kernel_rfl; rfl; rfl; rfl; (exact atk); (exact atk); rfl; (have := HL.out; simp [fixed]; omega); intro a' c'; (refine apk ?_)) | (refine ax1m ?_) | (refine aac ?_; intro ac cc) | (refine ax2m ?_) | (refine ap3 ?_ ?_ <;> first | exact True.intro | intro h))
    refine ⟨_, by omega, 2 + 1, .slice a' ((l ++ (fixed n).take 2).length + 1) c', rfl, by omega, ?_, rfl, rfl, rfl, rfl⟩
    rw [HB.out.2.1]
    simp only [fixed, u8s, U8R, List.take_succ_cons, List.take_zero, List.map_append, List.map_cons, List.map_nil, List.length_append, List.length_cons, List.length_nil, List.append_assoc, List.cons_append, List.nil_append, Nat.zero_add, Nat.reduceAdd, Nat.add_assoc]
    (exact atks)
  · rw [show kk 3 = 0 from rfl]
    repeat' (first | (refine ax0m ?_) | (refine abb ?_; intro b) | (with_reducible refine tr_two ?_ ?_) | (refine ax1m ?_) | (refine aac ?_; intro ac cc) | (refine ax2m ?_) | (refine ap3 ?_ ?_ <;> first | exact True.intro | intro h))
    ((with_reducible apply sw_draw (id := 4) 11 [(0, true), (1, true), (2, true), (3, true), (4, true), (5, true), (6, true), (7, true), (8, true), (9, false), (10, false)] [(11, false), (12, false), (13, false)] [(g, .cells [v', .bool bad].toArray 51 (0, 0))]); kernel_rfl; (exact atks); kernel_rfl; intro r' hl')
    have hb0 := hl'.2 _ List.mem_cons_self
    repeat' (first | (refine ax0m ?_) | (refine abb ?_; intro b) | (with_reducible refine tr_two ?_ ?_) | ((with_reducible apply kx_bs1 (E := 5) (z := .int .u8 0) (by_ := 1)); kernel_rfl; kernel_rfl; rfl; rfl; rfl; intro bz; (refine apk ?_)) | ((with_reducible apply kx_append1 (E := 5) (z := .int .u8 0) (by_ := 1)); kernel_rfl; kernel_rfl; rfl; rfl; rfl; (exact atk); (exact atk); rfl; (have := HL.out; simp [fixed]; omega); intro a' c'; (refine apk ?_)) | (refine ax1m ?_) | (refine aac ?_; intro ac cc) | (refine ax2m ?_) | (refine ap3 ?_ ?_ <;> first | exact True.intro | intro h))
    refine ⟨_, by omega, 3 + 1, .slice a' ((l ++ (fixed n).take 3).length + 1) c', rfl, by omega, ?_, rfl, rfl, rfl, rfl⟩
    rw [HB.out.2.2]
    simp only [fixed, u8s, U8R, List.take_succ_cons, List.take_zero, List.map_append, List.map_cons, List.map_nil, List.length_append, List.length_cons, List.length_nil, List.append_assoc, List.cons_append, List.nil_append, Nat.zero_add, Nat.reduceAdd, Nat.add_assoc]
    (exact atks)
  · rw [show kk 4 = -8 from rfl]
    repeat' (first | (refine ax0m ?_) | (refine abb ?_; intro b) | (with_reducible refine tr_two ?_ ?_) | (refine ax1m ?_) | (refine aac ?_; intro ac cc) | (refine ax2m ?_) | (refine ap3 ?_ ?_ <;> first | exact True.intro | intro h))
    ((with_reducible apply fp_end); exact res_0 rfl)
    exact HR.out _ [] _ _ (by (exact atks)) ⟨_, rfl⟩
end Go.Proofs.YtfgkhkpngnhimaaGreat
