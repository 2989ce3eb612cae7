
/- Numbers as bytes: what the wire's writers put and its readers get; plain functions on lists, no program. -/
import Derived.Test.YtkbajhiahpkgiaaGreatAp
import Derived.Laws.BitsLemmas
import Derived.Laws.Bits64b
import Derived.WalkKit
import Derived.Laws.BitsAllLaws
namespace Go.Proofs.YtkbajhiahpkgiaaGreat

/-- The bytes of a number: seven bits each, the lowest first, all but the last one marked. -/
def septs (n : Nat) : List UInt8 := if h : n < 128 then [UInt8.ofNat n] else UInt8.ofNat (n % 128 + 128) :: septs (n / 128)
termination_by n
decreasing_by omega

def maxNum : Nat := 1099511627776

theorem septs_small {n : Nat} (h : n < 128) : septs n = [UInt8.ofNat n] := by rw [septs, dif_pos h]
theorem septs_big {n : Nat} (h : ¬ n < 128) : septs n = UInt8.ofNat (n % 128 + 128) :: septs (n / 128) := by rw [septs, dif_neg h]
theorem septs_ne (n : Nat) : septs n ≠ [] := by rw [septs]; split <;> simp
theorem septs_len (n : Nat) (k : Nat) (h : n < 128 ^ (k + 1)) : (septs n).length ≤ k + 1 := by
  induction k generalizing n with
  | zero => rw [septs_small (by simpa using h)]; simp
  | succ k ih =>
    by_cases h1 : n < 128
    · rw [septs_small h1]; simp
    · rw [septs_big h1, List.length_cons]
      have : n / 128 < 128 ^ (k + 1) := by
        rw [Nat.div_lt_iff_lt_mul (by omega)]
        rw [Nat.pow_succ] at h
        exact h
      have := ih _ this
      omega
theorem septs_len6 {n : Nat} (h : n ≤ maxNum) : (septs n).length ≤ 6 := septs_len n 5 (by unfold maxNum at h; omega)

def texts (l : List UInt8) : List UInt8 := septs l.length ++ l
end Go.Proofs.YtkbajhiahpkgiaaGreat

/- Bits of 32: masks, or; the bytes of a number the other way round; no program is named. -/
namespace Go.Proofs.YtkbajhiahpkgiaaGreat
open Go.RowKit

theorem or_disj (a b : Nat) (i : Nat) (hb : b < 2 ^ i) : (2 ^ i * a) ||| b = 2 ^ i * a + b := (Nat.two_pow_add_eq_or_of_lt hb a).symm

end Go.Proofs.YtkbajhiahpkgiaaGreat

/- Numbers as bytes, read: the arithmetic of a round. No program is named. -/
namespace Go.Proofs.YtkbajhiahpkgiaaGreat
open Go.RowKit

theorem and127 (a : Nat) (h : a < 256) : bits BinOp.and IntKind.u8 (a : Int) 127 = ((a % 128 : Nat) : Int) := by
  have k : ∀ a : Fin 256, bits BinOp.and IntKind.u8 ((a.val : Nat) : Int) 127 = ((a.val % 128 : Nat) : Int) := by decide +kernel
  exact k ⟨a, h⟩
theorem bits64 (a b : Nat) (ha : a < 9223372036854775808) (hb : b < 9223372036854775808) : bits .or .i64 (a : Int) (b : Int) = ((a ||| b : Nat) : Int) :=
  (bits_nat .i64 63 (by decide) (fun n h0 h1 => by rw [IntKind.wrap_i64]; omega) a b (by simpa using ha) (by simpa using hb)).2
theorem or_add (acc x i : Nat) (h : acc < 128 ^ i) : acc ||| (x * 128 ^ i) = acc + x * 128 ^ i := by
  have e : (128 : Nat) ^ i = 2 ^ (7 * i) := by rw [show (128 : Nat) = 2 ^ 7 by decide, ← Nat.pow_mul]
  rw [e] at h ⊢
  rw [Nat.or_comm, Nat.mul_comm, or_disj x acc (7 * i) h, Nat.add_comm]
theorem pow_le6 {i : Nat} (h : i ≤ 5) : 128 ^ i ≤ 34359738368 := by
  have : (128 : Nat) ^ i ≤ 128 ^ 5 := Nat.pow_le_pow_right (by omega) h
  simpa using this
theorem shl_num (x i : Nat) (hx : x < 128) (hi : i ≤ 5) : wrap64 ((x : Int) * 2 ^ (7 * i)) = ((x * 128 ^ i : Nat) : Int) := by
  have h1 := pow_le6 hi
  have h2 : x * 128 ^ i ≤ 128 * 34359738368 := Nat.mul_le_mul (by omega) h1
  have e : ((x : Int) * 2 ^ (7 * i)) = ((x * 128 ^ i : Nat) : Int) := by
    have e2 : (2 : Nat) ^ (7 * i) = 128 ^ i := by rw [show (128 : Nat) = 2 ^ 7 by decide, ← Nat.pow_mul]
    rw [← e2]; simp
  rw [e]; unfold wrap64; omega
theorem or_num (acc x i : Nat) (hx : x < 128) (hi : i ≤ 5) (ha : acc < 128 ^ i) : bits .or .i64 (acc : Int) ((x * 128 ^ i : Nat) : Int) = ((acc + x * 128 ^ i : Nat) : Int) := by
  have h1 := pow_le6 hi
  have h2 : x * 128 ^ i ≤ 128 * 34359738368 := Nat.mul_le_mul (by omega) h1
  rw [bits64 acc (x * 128 ^ i) (by omega) (by omega), or_add acc x i ha]
theorem acc_next (acc x i : Nat) (hx : x < 128) (ha : acc < 128 ^ i) : acc + x * 128 ^ i < 128 ^ (i + 1) := by
  have : (x + 1) * 128 ^ i ≤ 128 * 128 ^ i := Nat.mul_le_mul_right _ (by omega)
  rw [Nat.add_mul] at this
  rw [Nat.pow_succ]; omega
end Go.Proofs.YtkbajhiahpkgiaaGreat

/- Sums by bits and by a table: plain facts on numbers. No program is named. -/
namespace Go.Proofs.YtkbajhiahpkgiaaGreat

def poly : Nat := 3988292384
/-- A bit taken into a number. -/
def crcBit (s : Nat) (b : Bool) : Nat := if ((s % 2 == 1) != b) then s / 2 ^^^ poly else s / 2
/-- One step without a bit. -/
def st (x : Nat) : Nat := crcBit x false
end Go.Proofs.YtkbajhiahpkgiaaGreat
