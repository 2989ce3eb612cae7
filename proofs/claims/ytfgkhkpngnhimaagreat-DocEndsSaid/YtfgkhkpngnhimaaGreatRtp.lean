/- Documents put are got again, and bytes of which documents are got are just theirs; plain functions on lists, no program. -/
import Derived.Test.YtfgkhkpngnhimaaGreatEq22
namespace Go.Proofs.YtfgkhkpngnhimaaGreat
open Go.RowKit Sx

theorem u8_of {n : Nat} (h : n < 256) : (UInt8.ofNat n).toNat = n := by simp; omega
theorem getS_septs : ∀ (k i n acc : Nat) (x : List UInt8), i + k = 6 → n < 128 ^ k → 0 < k → (i = 0 ∨ n ≠ 0) → getS i acc (septs n ++ x) = some (acc + n * 128 ^ i, x)
  | 0, _, _, _, _, _, _, h, _ => absurd h (by omega)
  | k + 1, i, n, acc, x, hik, hn, _, h0 => by
    by_cases hs : n < 128
    · rw [septs_small hs, List.singleton_append, getS, u8_of (by omega), if_pos ⟨by omega, by omega⟩, if_pos hs]
    · rw [septs_big hs, List.cons_append, getS, u8_of (by omega), if_pos ⟨by omega, by omega⟩, if_neg (by omega)]
      have hk : 0 < k := by
        rcases Nat.eq_zero_or_pos k with rfl | h
        · simp at hn; omega
        · exact h
      rw [getS_septs k (i + 1) (n / 128) _ x (by omega) (by rw [Nat.div_lt_iff_lt_mul (by omega)]; rw [Nat.pow_succ] at hn; exact hn) hk (.inr (by omega))]
      congr 2
      have e : n = n / 128 * 128 + n % 128 := by omega
      rw [Nat.pow_succ, show n % 128 + 128 - 128 = n % 128 by omega]
      have e2 : n * 128 ^ i = n / 128 * (128 ^ i * 128) + n % 128 * 128 ^ i := by
        rw [Nat.mul_comm (128 ^ i) 128, ← Nat.mul_assoc, ← Nat.add_mul, ← e]
      rw [e2]; omega
theorem getS_inv : ∀ (l : List UInt8) (i acc m : Nat) (x : List UInt8), getS i acc l = some (m, x) → ∃ n, m = acc + n * 128 ^ i ∧ l = septs n ++ x ∧ (0 < i → n ≠ 0)
  | [], _, _, _, _, h => by rw [getS] at h; cases h
  | b :: l, i, acc, m, x, h => by
    have hb := b.toNat_lt
    rw [getS] at h
    split at h
    · rename_i hc
      split at h
      · rename_i hs
        simp only [Option.some.injEq, Prod.mk.injEq] at h
        refine ⟨b.toNat, h.1.symm, ?_, fun hi => ?_⟩
        · rw [septs_small hs, ← h.2]; simp
        · rcases hc.2 with h | h
          · omega
          · exact h
      · rename_i hs
        obtain ⟨n, rfl, rfl, hn⟩ := getS_inv l (i + 1) _ m x h
        have hn0 := hn (by omega)
        refine ⟨n * 128 + (b.toNat - 128), ?_, ?_, fun _ => by omega⟩
        · rw [Nat.pow_succ, Nat.add_mul, Nat.mul_assoc, Nat.mul_comm 128 (128 ^ i)]; omega
        · have e1 : (n * 128 + (b.toNat - 128)) / 128 = n := by omega
          have e2 : (n * 128 + (b.toNat - 128)) % 128 + 128 = b.toNat := by omega
          rw [septs_big (n := n * 128 + (b.toNat - 128)) (by omega), List.cons_append, e1, e2]
          simp
    · cases h
theorem numR_septs {most n : Nat} (x : List UInt8) (h : n ≤ most) (hm : most ≤ maxNum) : numR most (some (septs n ++ x)) = (n, some x) := by
  have e : getS 0 0 (septs n ++ x) = some (n, x) := by
    rw [getS_septs 6 0 n 0 x rfl (by unfold maxNum at hm; omega) (by omega) (.inl rfl)]; simp
  simp only [numR, getN, e]
  rw [if_pos ⟨by omega, by omega⟩]
theorem numR_inv {most n : Nat} {st : Option (List UInt8)} {x : List UInt8} (h : numR most st = (n, some x)) : st = some (septs n ++ x) ∧ n ≤ most := by
  have hm := numR_most most st
  rw [h] at hm
  refine ⟨?_, hm⟩
  cases st with
  | none => simp [numR] at h
  | some l =>
    simp only [numR, getN] at h
    cases e : getS 0 0 l with
    | none => rw [e] at h; simp at h
    | some p =>
      obtain ⟨m, y⟩ := p
      rw [e] at h
      simp only at h
      split at h
      · rename_i o heq
        split at heq
        · simp only [Option.some.injEq, Prod.mk.injEq] at heq h
          obtain ⟨n', h1, h2, _⟩ := getS_inv l 0 0 m y e
          obtain ⟨rfl, rfl⟩ := heq
          obtain ⟨rfl, rfl⟩ := h
          simp at h1
          rw [h2, h1]
        · cases heq
      · simp at h
theorem textR_texts {most : Nat} {p : List UInt8} (x : List UInt8) (h : p.length ≤ most) (hm : most ≤ maxNum) : textR most (some (texts p ++ x)) = (p, some x) := by
  unfold textR texts
  rw [List.append_assoc, numR_septs _ h hm]
  simp only [takeR]
  rw [if_neg (by simp)]
  simp
theorem textR_inv {most : Nat} {p x : List UInt8} {st : Option (List UInt8)} (h : textR most st = (p, some x)) : st = some (texts p ++ x) := by
  unfold textR at h
  obtain ⟨n, y, e⟩ : ∃ n y, numR most st = (n, y) := ⟨_, _, rfl⟩
  rw [e] at h
  cases y with
  | none => simp [takeR] at h
  | some y =>
    simp only [takeR] at h
    split at h
    · simp at h
    · rename_i hl
      simp only [Prod.mk.injEq, Option.some.injEq] at h
      obtain ⟨rfl, rfl⟩ := h
      rw [(numR_inv e).1, texts, List.length_take, Nat.min_eq_left (by omega), List.append_assoc, List.take_append_drop]
theorem fixR_fixed {n : Nat} (x : List UInt8) (h : n < 4294967296) : fixR (some (fixed n ++ x)) = (n, some x) := by
  simp only [fixed, List.cons_append, List.nil_append, fixR, ofBytes]
  congr 1
  simp
  omega
theorem fixR_inv {n : Nat} {st : Option (List UInt8)} {x : List UInt8} (h : fixR st = (n, some x)) : st = some (fixed n ++ x) := by
  unfold fixR at h
  split at h
  · rename_i a b c d l
    simp only [Prod.mk.injEq, Option.some.injEq, ofBytes] at h
    obtain ⟨rfl, rfl⟩ := h
    have := a.toNat_lt; have := b.toNat_lt; have := c.toNat_lt; have := d.toNat_lt
    simp only [fixed, List.cons_append, List.nil_append, Option.some.injEq, List.cons.injEq, and_true]
    refine ⟨?_, ?_, ?_, ?_⟩ <;> apply UInt8.toNat_inj.1 <;> simp <;> omega
  · simp at h
def goodDoc (d : DocV) : Prop := d.path.length ≤ 200 ∧ d.sum < 4294967296 ∧ 0 ≤ d.size ∧ d.size ≤ 1048576 ∧ d.lang = langOf d.path
theorem docR_put {d : DocV} (x : List UInt8) (h : goodDoc d) : docR (some (putDoc d ++ x)) = (d, some x) := by
  obtain ⟨h1, h2, h3, h4, h5⟩ := h
  obtain ⟨p, l, s, n⟩ := d
  obtain ⟨m, rfl⟩ : ∃ m : Nat, n = m := ⟨n.toNat, by simp at h3 ⊢; omega⟩
  dsimp only at *
  subst h5
  have e := numR_septs (most := 1048576) (n := m) x (by omega) (by unfold maxNum; omega)
  have e1 := textR_texts (most := 200) (fixed s ++ (septs m ++ x)) h1 (by unfold maxNum; omega)
  have e2 := fixR_fixed (septs m ++ x) h2
  rw [show ((1048576 : Nat) : Int) = 1048576 from rfl] at e
  rw [show ((200 : Nat) : Int) = 200 from rfl] at e1
  simp only [docR, putDoc, List.append_assoc, Int.toNat_natCast, e1, e2, e]
theorem docR_inv {st : Option (List UInt8)} {d : DocV} {x : List UInt8} (h : docR st = (d, some x)) : st = some (putDoc d ++ x) := by
  unfold docR at h
  obtain ⟨p, st1, e1⟩ : ∃ p s, textR 200 st = (p, s) := ⟨_, _, rfl⟩
  rw [e1] at h
  dsimp only at h
  obtain ⟨c, st2, e2⟩ : ∃ p s, fixR st1 = (p, s) := ⟨_, _, rfl⟩
  rw [e2] at h
  dsimp only at h
  obtain ⟨n, st3, e3⟩ : ∃ p s, numR 1048576 st2 = (p, s) := ⟨_, _, rfl⟩
  rw [e3] at h
  dsimp only at h
  simp only [Prod.mk.injEq] at h
  obtain ⟨rfl, rfl⟩ := h
  obtain ⟨rfl, _⟩ := numR_inv (most := 1048576) e3
  have := fixR_inv e2
  subst this
  rw [textR_inv (most := 200) e1]
  simp [putDoc]
theorem docsR_put : ∀ (ds : List DocV) (x : List UInt8), (∀ d ∈ ds, goodDoc d) → docsR ds.length (some (ds.flatMap putDoc ++ x)) = (ds, some x)
  | [], x, _ => by simp [docsR]
  | d :: ds, x, h => by
    have e := docR_put (ds.flatMap putDoc ++ x) (h d List.mem_cons_self)
    have ih := docsR_put ds x fun y hy => h y (List.mem_cons_of_mem _ hy)
    rw [List.length_cons, List.flatMap_cons, List.append_assoc, docsR_succ, e]
    simp [ih]
theorem docsR_inv : ∀ (n : Nat) (st : Option (List UInt8)) (ds : List DocV) (x : List UInt8), docsR n st = (ds, some x) → st = some (ds.flatMap putDoc ++ x) ∧ ds.length = n
  | 0, st, ds, x, h => by simp [docsR] at h; obtain ⟨rfl, rfl⟩ := h; simp
  | n + 1, st, ds, x, h => by
    rw [docsR_succ] at h
    split at h
    · simp at h
    · simp only [Prod.mk.injEq] at h
      obtain ⟨rfl, h2⟩ := h
      obtain ⟨i1, i2⟩ := docsR_inv n (docR st).2 (docsR n (docR st).2).1 x (by rw [← h2])
      refine ⟨?_, by simp [i2]⟩
      have i3 := docR_inv (st := st) (d := (docR st).1) (x := (docsR n (docR st).2).1.flatMap putDoc ++ x) (by rw [← i1])
      rw [List.flatMap_cons, List.append_assoc]
      exact i3
/-- Bytes of which documents are got are just theirs. -/
theorem get_put {b : List UInt8} (h : getOk b = true) : putBytes (getDocs b).1 = b := by
  unfold getOk getDocs at *
  simp only [Bool.and_eq_true, decide_eq_true_eq] at h
  obtain ⟨n, st, e⟩ : ∃ n s, numR 4000 (some b) = (n, s) := ⟨_, _, rfl⟩
  rw [e] at h ⊢
  dsimp only at h ⊢
  obtain ⟨ds, hd⟩ : ∃ ds, (docsR n st).1 = ds := ⟨_, rfl⟩
  obtain ⟨i1, i2⟩ := docsR_inv n st ds [] (Prod.ext hd h.1)
  rw [hd]
  clear hd h
  subst i1
  obtain ⟨i3, _⟩ := numR_inv (most := 4000) e
  simp only [Option.some.injEq] at i3
  rw [putBytes, i2, i3]
  simp
theorem pathOk_len {p : List UInt8} (h : pathOk p = true) : p.length ≤ 200 := by
  unfold pathOk at h
  simp only [Bool.and_eq_true, decide_eq_true_eq] at h
  exact h.1.2
theorem ordOk_mem : ∀ {ps : List (List UInt8)} {e p : List UInt8}, ordOk e ps = true → p ∈ ps → pathOk p = true
  | [], _, _, _, h => by cases h
  | q :: ps, e, p, h, hp => by
    unfold ordOk at h
    simp only [Bool.and_eq_true] at h
    rcases List.mem_cons.1 hp with rfl | hp
    · exact h.1.1
    · exact ordOk_mem h.2 hp
/-- Documents that are right are got from their bytes. -/
theorem put_get {ds : List DocV} (h : docsOk ds = true) (hs : ∀ d ∈ ds, d.sum < 4294967296) : getDocs (putBytes ds) = (ds, some []) := by
  unfold docsOk at h
  simp only [Bool.and_eq_true, decide_eq_true_eq] at h
  obtain ⟨⟨h1, h2⟩, h3⟩ := h
  have e := numR_septs (most := 4000) (n := ds.length) (ds.flatMap putDoc) h1 (by unfold maxNum; omega)
  rw [show ((4000 : Nat) : Int) = 4000 from rfl] at e
  unfold getDocs putBytes
  simp only [e]
  have := docsR_put ds [] fun d hd => ⟨pathOk_len (ordOk_mem h3 (List.mem_map.2 ⟨d, hd, rfl⟩)), hs d hd, ?_⟩
  · simpa using this
  · simp only [Bool.not_eq_true', List.any_eq_false] at h2
    have := h2 d hd
    simp [docBad] at this
    exact ⟨this.1.2, this.2, this.1.1⟩
end Go.Proofs.YtfgkhkpngnhimaaGreat
