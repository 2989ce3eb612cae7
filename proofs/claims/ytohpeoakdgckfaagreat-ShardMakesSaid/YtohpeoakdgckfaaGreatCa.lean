
/- crc: Bit, bits, made; mudlarkref01: Bit, take, Update, One: their contracts. -/
import Derived.Test.YtohpeoakdgckfaaGreatIdx
import Derived.Test.YtohpeoakdgckfaaGreatProg
import Derived.Test.YtohpeoakdgckfaaGreatSx
import Derived.Test.YtohpeoakdgckfaaGreatBits
import Derived.Test.YtohpeoakdgckfaaGreatWd
namespace Go.Proofs.YtohpeoakdgckfaaGreat
open Go.RowKit Sx

attribute [local go_sem] Oper.semAt_some

theorem and1 (s : Nat) (h : s < 4294967296) : (bits BinOp.and IntKind.u32 (s : Int) 1 == 1) = (s % 2 == 1) := by
  have e := u32_and_nat s 1 h (by omega)
  rw [show ((1 : Nat) : Int) = 1 from rfl] at e
  rw [e, Nat.and_one_is_mod]
  rcases Nat.mod_two_eq_zero_or_one s with h | h <;> rw [h] <;> rfl
theorem and1b (s : Nat) (h : s < 256) : (bits BinOp.and IntKind.u8 (s : Int) 1 == 1) = (s % 2 == 1) := by
  have e := u8_and_nat s 1 h (by omega)
  rw [show ((1 : Nat) : Int) = 1 from rfl] at e
  rw [e, Nat.and_one_is_mod]
  rcases Nat.mod_two_eq_zero_or_one s with h | h <;> rw [h] <;> rfl

set_option maxHeartbeats 400000 in
theorem bit_any (r : Hp) (s : Nat) (b : Bool) (hs : s < 4294967296) : Tri Tryz.prog r 197 [.int .u32 s, .bool b] [] fun w H => w = .int .u32 (crcBit s b) ∧ H = [] := by
  have e1 := and1 s hs
  have e2 : bits BinOp.xor IntKind.u32 ((s : Int) / 2) 3988292384 = ((s / 2 ^^^ 3988292384 : Nat) : Int) := by
    have := u32_xor_nat (s / 2) 3988292384 (by omega) (by omega)
    rw [Int.natCast_ediv] at this; exact this
  obtain ⟨q, hq⟩ : ∃ q, (s % 2 == 1) = q := ⟨_, rfl⟩
  rw [hq] at e1
  have HQ := hid hq
  have E2 := hid e2
  clear hq e2
  cases q <;> cases b
  all_goals
    refine fn_of_sw Tryz.func197 rfl _ rfl ?_; refine aen Tryz.ntmps197 ?_
    repeat' (first | refine ax0m ?_ | (refine abb ?_; intro b) | refine ax1m ?_ | (refine aac ?_; intro ac cc) | refine ax2m ?_ | (refine ap3 ?_ ?_ <;> try intro h) | apply True.intro)
    ((with_reducible apply fp_ret); exact res_1 rfl rfl)
    refine ⟨?_, rfl⟩
    unfold crcBit
    rw [HQ.out]
    first
    | (simp; done)
    | (rw [E2.out]; rfl)
set_option maxHeartbeats 400000 in
theorem rbit_any (r : Hp) (s : Nat) (b : Bool) (hs : s < 4294967296) : Tri Tryz.prog r 217 [.int .u32 s, .bool b] [] fun w H => w = .int .u32 (crcBit s b) ∧ H = [] := by
  have e1 := and1 s hs
  have e2 : bits BinOp.xor IntKind.u32 ((s : Int) / 2) 3988292384 = ((s / 2 ^^^ 3988292384 : Nat) : Int) := by
    have := u32_xor_nat (s / 2) 3988292384 (by omega) (by omega)
    rw [Int.natCast_ediv] at this; exact this
  obtain ⟨q, hq⟩ : ∃ q, (s % 2 == 1) = q := ⟨_, rfl⟩
  rw [hq] at e1
  have HQ := hid hq
  have E2 := hid e2
  clear hq e2
  cases q <;> cases b
  all_goals
    refine fn_of_sw Tryz.func217 rfl _ rfl ?_; refine aen Tryz.ntmps217 ?_
    repeat' (first | refine ax0m ?_ | (refine abb ?_; intro b) | refine ax1m ?_ | (refine aac ?_; intro ac cc) | refine ax2m ?_ | (refine ap3 ?_ ?_ <;> try intro h) | apply True.intro)
    ((with_reducible apply fp_ret); exact res_1 rfl rfl)
    refine ⟨?_, rfl⟩
    unfold crcBit
    rw [HQ.out]
    first
    | (simp; done)
    | (rw [E2.out]; rfl)

/-- The bits of a byte one by one. -/
def bit1 (b : Bool) : List Value := [.bool b]
set_option maxRecDepth 10000 in
set_option maxHeartbeats 400000 in
theorem bits_seq (r : Hp) (n : Nat) (hn : n < 256) (Bx : Nat) : Seq Tryz.prog r 219 [.pointer (some ⟨Bx, 0, none⟩)] bit1 (bitsOf n) [pt Bx (.cells [.int .u8 n].toArray 5 (0, 0))] [] := by
  intro k J Jx hY
  have hlen : (bitsOf n).length = 8 := by simp [bitsOf]
  refine Tri.free fun R HR => ?_
  have HY := hid hY
  have HN := hid hn
  have HL := hid hlen
  clear hY hn hlen
  refine fn_of_sw Tryz.func219 rfl _ rfl ?_; refine aen Tryz.ntmps219 ?_
  repeat' (first | refine ax0m ?_ | (refine abb ?_; intro b) | refine ax1m ?_ | (refine aac ?_; intro ac cc) | refine ax2m ?_ | (refine ap3 ?_ ?_ <;> try intro h) | apply True.intro)
  refine sw_loop (fun g t H' => ∃ j : Nat, g = 9 - j ∧ j ≤ 8 ∧ (∃ G, Takes [J j, pt Bx (.cells [.int .u8 (n / 2 ^ j : Nat)].toArray 5 (0, 0))] H' G) ∧ (t.length = 14 ∧ t[0]? = some (.func (.yield k) #[] #[]) ∧ t[1]? = some (.pointer (some ⟨Bx, 0, none⟩)) ∧ t[3]? = some (.int .i64 j))) 9
    ⟨0, rfl, by omega, ⟨[], by simp; (exact atks)⟩, rfl, rfl, rfl, rfl⟩ ?_
  rintro g t H' ⟨j, rfl, hj, ⟨G, hp⟩, hlen, e0, e1, e3⟩
  revert e0 e1 e3; revert t; refine all_len (n := 14) ?_; intro u0 u1 u2 u3 u4 u5 u6 u7 u8 u9 u10 u11 u12 u13 e0 e1 e3; cases e0; cases e1; cases e3
  refine sw_takeG hp ?_
  clear hp
  by_cases hlt : j < 8
  · obtain ⟨m, hm⟩ : ∃ m, n / 2 ^ j = m := ⟨_, rfl⟩
    have hmn : m < 256 := by rw [← hm]; exact Nat.lt_of_le_of_lt (Nat.div_le_self _ _) HN.out
    have hm2 : n / 2 ^ (j + 1) = m / 2 := by rw [Nat.pow_succ, ← Nat.div_div_eq_div_mul, hm]
    have hy := HY.out j (by rw [HL.out]; exact hlt)
    have hb : (bitsOf n)[j]'(by rw [HL.out]; exact hlt) = (m % 2 == 1) := by simp [bitsOf, hm]
    rw [hb] at hy
    have e1 := and1b m hmn
    have HY1 := hid hy
    have HM2 := hid hm2
    rw [hm]
    clear hy hb hm hm2
    repeat' (first | refine ax0m ?_ | (refine abb ?_; intro b) | ((with_reducible apply kx_yield); rfl; exact (HY1.out); rfl; (exact atk); all_goals (refine apk ?_)) | refine ax1m ?_ | (refine aac ?_; intro ac cc) | refine ax2m ?_ | (refine ap3 ?_ ?_ <;> try intro h) | apply True.intro)
    · exact ⟨_, by omega, j + 1, rfl, by omega, ⟨_, by rw [HM2.out, Int.natCast_ediv]; (exact atks)⟩, rfl, rfl, rfl, rfl⟩
    · ((with_reducible apply fp_ret); exact res_0 rfl)
      exact HR.out _ [pt Bx _] _ [Jx (j + 1)] (by (exact atks)) (.inr ⟨j, [], by rw [HL.out]; exact hlt, rfl⟩)
  · obtain rfl : j = 8 := by omega
    repeat' (first | refine ax0m ?_ | (refine abb ?_; intro b) | refine ax1m ?_ | (refine aac ?_; intro ac cc) | refine ax2m ?_ | (refine ap3 ?_ ?_ <;> try intro h) | apply True.intro)
    ((with_reducible apply fp_end); exact res_0 rfl)
    exact HR.out _ [pt Bx _] _ [J 8] (by (exact atks)) (.inl (by rw [HL.out]))

set_option maxHeartbeats 400000 in
theorem bits_any (r : Hp) (n : Nat) : Tri Tryz.prog r 196 [.int .u8 n] [] fun v H => ∃ b, v = .func (.func 219) #[] #[.pointer (some ⟨b, 0, none⟩)] ∧ H = [pt b (.cells [.int .u8 n].toArray 5 (0, 0))] := by
  refine fn_of_sw Tryz.func196 rfl _ rfl ?_; refine aen Tryz.ntmps196 ?_
  repeat' (first | refine ax0m ?_ | (refine abb ?_; intro b) | refine ax1m ?_ | (refine aac ?_; intro ac cc) | refine ax2m ?_ | (refine ap3 ?_ ?_ <;> try intro h) | apply True.intro)
  ((with_reducible apply fp_ret); exact res_1 rfl rfl)
  exact ⟨_, rfl, rfl⟩
end Go.Proofs.YtohpeoakdgckfaaGreat
