/- Numbers, texts, fixed numbers that were put are read again, and what is read was put; no program is named. -/
import Derived.Test.YtkbajhiahpkgiaaRc
import Derived.Test.YtkbajhiahpkgiaaWe
namespace Go.Proofs.Ytkbajhiahpkgiaa
open Go.RowKit Sx

theorem u8_of {n : Nat} (h : n < 256) : (UInt8.ofNat n).toNat = n := by simp; omega
theorem getS_septs : ∀ (k i n acc : Nat) (x : List UInt8), i + k = 6 → n < 128 ^ k → 0 < k → (i = 0 ∨ n ≠ 0) → getS i acc (septs n ++ x) = some (acc + n * 128 ^ i, x)
  | 0, _, _, _, _, _, _, h, _ => absurd h (by omega)
  | k + 1, i, n, acc, x, hik, hn, _, h0 => by
    by_cases hs : n < 128
    · rw [septs_small hs, List.singleton_append, getS, u8_of (by omega), if_pos ⟨by omega, by omega⟩, if_pos hs]
    · rw [septs_big hs, List.cons_append, getS, u8_of (by omega), if_pos ⟨by omega, by omega⟩, if_neg (by omega)]
      have hk : 0 < k := by
        rcases Nat.eq_zero_or_pos k with rfl | h
        · simp at hn; omega
        · exact h
      rw [getS_septs k (i + 1) (n / 128) _ x (by omega) (by rw [Nat.div_lt_iff_lt_mul (by omega)]; rw [Nat.pow_succ] at hn; exact hn) hk (.inr (by omega))]
      congr 2
      have e : n = n / 128 * 128 + n % 128 := by omega
      rw [Nat.pow_succ, show n % 128 + 128 - 128 = n % 128 by omega]
      have e2 : n * 128 ^ i = n / 128 * (128 ^ i * 128) + n % 128 * 128 ^ i := by
        rw [Nat.mul_comm (128 ^ i) 128, ← Nat.mul_assoc, ← Nat.add_mul, ← e]
      rw [e2]; omega
theorem getS_inv : ∀ (l : List UInt8) (i acc m : Nat) (x : List UInt8), getS i acc l = some (m, x) → ∃ n, m = acc + n * 128 ^ i ∧ l = septs n ++ x ∧ (0 < i → n ≠ 0)
  | [], _, _, _, _, h => by rw [getS] at h; cases h
  | b :: l, i, acc, m, x, h => by
    have hb := b.toNat_lt
    rw [getS] at h
    split at h
    · rename_i hc
      split at h
      · rename_i hs
        simp only [Option.some.injEq, Prod.mk.injEq] at h
        refine ⟨b.toNat, h.1.symm, ?_, fun hi => ?_⟩
        · rw [septs_small hs, ← h.2]; simp
        · rcases hc.2 with h | h
          · omega
          · exact h
      · rename_i hs
        obtain ⟨n, rfl, rfl, hn⟩ := getS_inv l (i + 1) _ m x h
        have hn0 := hn (by omega)
        refine ⟨n * 128 + (b.toNat - 128), ?_, ?_, fun _ => by omega⟩
        · rw [Nat.pow_succ, Nat.add_mul, Nat.mul_assoc, Nat.mul_comm 128 (128 ^ i)]; omega
        · have e1 : (n * 128 + (b.toNat - 128)) / 128 = n := by omega
          have e2 : (n * 128 + (b.toNat - 128)) % 128 + 128 = b.toNat := by omega
          rw [septs_big (n := n * 128 + (b.toNat - 128)) (by omega), List.cons_append, e1, e2]
          simp
    · cases h
theorem numR_septs {most n : Nat} (x : List UInt8) (h : n ≤ most) (hm : most ≤ maxNum) : numR most (some (septs n ++ x)) = (n, some x) := by
  have e : getS 0 0 (septs n ++ x) = some (n, x) := by
    rw [getS_septs 6 0 n 0 x rfl (by unfold maxNum at hm; omega) (by omega) (.inl rfl)]; simp
  simp only [numR, getN, e]
  rw [if_pos ⟨by omega, by omega⟩]
theorem numR_inv {most n : Nat} {st : Option (List UInt8)} {x : List UInt8} (h : numR most st = (n, some x)) : st = some (septs n ++ x) ∧ n ≤ most := by
  have hm := numR_most most st
  rw [h] at hm
  refine ⟨?_, hm⟩
  cases st with
  | none => simp [numR] at h
  | some l =>
    simp only [numR, getN] at h
    cases e : getS 0 0 l with
    | none => rw [e] at h; simp at h
    | some p =>
      obtain ⟨m, y⟩ := p
      rw [e] at h
      simp only at h
      split at h
      · rename_i o heq
        split at heq
        · simp only [Option.some.injEq, Prod.mk.injEq] at heq h
          obtain ⟨n', h1, h2, _⟩ := getS_inv l 0 0 m y e
          obtain ⟨rfl, rfl⟩ := heq
          obtain ⟨rfl, rfl⟩ := h
          simp at h1
          rw [h2, h1]
        · cases heq
      · simp at h
theorem textR_texts {most : Nat} {p : List UInt8} (x : List UInt8) (h : p.length ≤ most) (hm : most ≤ maxNum) : textR most (some (texts p ++ x)) = (p, some x) := by
  unfold textR texts
  rw [List.append_assoc, numR_septs _ h hm]
  simp only [takeR]
  rw [if_neg (by simp)]
  simp
theorem textR_inv {most : Nat} {p x : List UInt8} {st : Option (List UInt8)} (h : textR most st = (p, some x)) : st = some (texts p ++ x) := by
  unfold textR at h
  obtain ⟨n, y, e⟩ : ∃ n y, numR most st = (n, y) := ⟨_, _, rfl⟩
  rw [e] at h
  cases y with
  | none => simp [takeR] at h
  | some y =>
    simp only [takeR] at h
    split at h
    · simp at h
    · rename_i hl
      simp only [Prod.mk.injEq, Option.some.injEq] at h
      obtain ⟨rfl, rfl⟩ := h
      rw [(numR_inv e).1, texts, List.length_take, Nat.min_eq_left (by omega), List.append_assoc, List.take_append_drop]
theorem fixR_fixed {n : Nat} (x : List UInt8) (h : n < 4294967296) : fixR (some (fixed n ++ x)) = (n, some x) := by
  simp only [fixed, List.cons_append, List.nil_append, fixR, ofBytes]
  congr 1
  simp
  omega
theorem fixR_inv {n : Nat} {st : Option (List UInt8)} {x : List UInt8} (h : fixR st = (n, some x)) : st = some (fixed n ++ x) := by
  unfold fixR at h
  split at h
  · rename_i a b c d l
    simp only [Prod.mk.injEq, Option.some.injEq, ofBytes] at h
    obtain ⟨rfl, rfl⟩ := h
    have := a.toNat_lt; have := b.toNat_lt; have := c.toNat_lt; have := d.toNat_lt
    simp only [fixed, List.cons_append, List.nil_append, Option.some.injEq, List.cons.injEq, and_true]
    refine ⟨?_, ?_, ?_, ?_⟩ <;> apply UInt8.toNat_inj.1 <;> simp <;> omega
  · simp at h
end Go.Proofs.Ytkbajhiahpkgiaa
