
/- The sum by bits, in plain Lean: it is linear, its step is one to one. No program. -/
import Derived.Test.YtohpeoakdgckfaaGreatBits
namespace Go.Proofs.YtohpeoakdgckfaaGreat
open Go.RowKit

theorem half_xor (a b : Nat) : (a ^^^ b) / 2 = a / 2 ^^^ b / 2 := by
  have h := Nat.shiftRight_xor_distrib (a := a) (b := b) (i := 1)
  simpa [Nat.shiftRight_eq_div_pow] using h
theorem odd_xor (a b : Nat) : ((a ^^^ b) % 2 == 1) = ((a % 2 == 1) != (b % 2 == 1)) := by
  have h := Nat.xor_mod_two_eq_one (a := a) (b := b)
  rw [Bool.eq_iff_iff]
  simp only [beq_iff_eq, bne_iff_ne, ne_eq]
  rw [h, Bool.eq_iff_iff]
  simp only [beq_iff_eq]
theorem crcBit_xor (s d : Nat) (b e : Bool) : crcBit (s ^^^ d) (b != e) = crcBit s b ^^^ crcBit d e := by
  unfold crcBit
  rw [odd_xor, half_xor]
  generalize s / 2 = x
  generalize d / 2 = y
  generalize poly = p
  cases (s % 2 == 1) <;> cases (d % 2 == 1) <;> cases b <;> cases e <;> refine Nat.eq_of_testBit_eq fun i => ?_ <;> simp only [Bool.bne_true, Bool.bne_false, Bool.not_false, bne_self_eq_false, if_true, if_false, Bool.false_eq_true, Nat.testBit_xor] <;> cases x.testBit i <;> cases y.testBit i <;> cases p.testBit i <;> rfl
theorem crcBit_zero {s : Nat} (h : s < 4294967296) (h0 : crcBit s false = 0) : s = 0 := by
  unfold crcBit poly at h0
  split at h0
  · have h1 : s / 2 = 3988292384 := by
      have h2 := congrArg (· ^^^ 3988292384) h0
      simpa [Nat.xor_assoc] using h2
    omega
  · rename_i hc
    have : s % 2 ≠ 1 := by simpa using hc
    omega
def crcBits (s : Nat) (l : List Bool) : Nat := l.foldl crcBit s
theorem crcBits_zeros {k s : Nat} (h : s < 4294967296) (h0 : crcBits s (List.replicate k false) = 0) : s = 0 := by
  induction k generalizing s with
  | zero => exact h0
  | succ k ih =>
    refine crcBit_zero h (ih ?_ h0)
    unfold crcBit poly
    split
    · exact Nat.xor_lt_two_pow (n := 32) (by omega) (by decide)
    · omega
theorem crcBits_xor : ∀ (a b : List Bool) (s d : Nat), a.length = b.length → crcBits (s ^^^ d) (a.zipWith (fun x y => x != y) b) = crcBits s a ^^^ crcBits d b
  | [], [], _, _, _ => rfl
  | x :: a, y :: b, s, d, h => by
    show crcBits (crcBit (s ^^^ d) (x != y)) (a.zipWith (fun x y => x != y) b) = crcBits (crcBit s x) a ^^^ crcBits (crcBit d y) b
    rw [crcBit_xor]
    exact crcBits_xor a b _ _ (by simpa using h)
/-- The number that bits are, the lowest first. -/
def wordB : List Bool → Nat
  | [] => 0
  | b :: l => (if b then 1 else 0) + 2 * wordB l
theorem wordB_zero : ∀ l : List Bool, wordB l = 0 → l = List.replicate l.length false
  | [], _ => rfl
  | b :: l, h => by
    cases b
    · have h1 : wordB l = 0 := by simp only [wordB, Bool.false_eq_true, if_false] at h; omega
      rw [List.length_cons, List.replicate_succ, ← wordB_zero l h1]
    · simp [wordB] at h
theorem wordB_lt : ∀ l : List Bool, wordB l < 2 ^ l.length
  | [] => by simp [wordB]
  | b :: l => by
    have := wordB_lt l
    rw [List.length_cons, Nat.pow_succ]
    simp only [wordB]
    split <;> omega
end Go.Proofs.YtohpeoakdgckfaaGreat
