
/- A burst of up to 32 bits that turns something is seen by the sum, in plain Lean. No program. -/
import Derived.Test.YtohpeoakdgckfaaGreatCr
import Derived.Test.YtohpeoakdgckfaaGreatOp
namespace Go.Proofs.YtohpeoakdgckfaaGreat
open Go.RowKit Sx

def bitsB (l : List UInt8) : List Bool := l.flatMap fun b => bitsOf b.toNat
theorem bitsOf_len (n : Nat) : (bitsOf n).length = 8 := by simp [bitsOf]
theorem bitsB_len : ∀ l : List UInt8, (bitsB l).length = 8 * l.length
  | [] => rfl
  | b :: l => by
    have h := bitsB_len l
    rw [show bitsB (b :: l) = bitsOf b.toNat ++ bitsB l from rfl, List.length_append, bitsOf_len, h, List.length_cons]
    omega
theorem crcAll_bits : ∀ (l : List UInt8) (s : Nat), crcAll s l = crcBits s (bitsB l)
  | [], _ => rfl
  | b :: l, s => by
    have h := crcAll_bits l (crcTake s b.toNat)
    show crcAll (crcTake s b.toNat) l = _
    rw [h, show bitsB (b :: l) = bitsOf b.toNat ++ bitsB l from rfl]
    unfold crcBits
    rw [List.foldl_append]
    rfl
theorem bitsOf_inj {m n : Nat} (hm : m < 256) (hn : n < 256) (h : bitsOf m = bitsOf n) : m = n := by
  have k : ∀ a : Fin 256, wordB (bitsOf a.val) = a.val := by decide +kernel
  have h1 := k ⟨m, hm⟩
  have h2 := k ⟨n, hn⟩
  dsimp only at h1 h2
  rw [← h1, ← h2, h]
theorem bitsB_inj : ∀ {l m : List UInt8}, l.length = m.length → bitsB l = bitsB m → l = m
  | [], [], _, _ => rfl
  | x :: l, y :: m, h, e => by
    obtain ⟨e1, e2⟩ := List.append_inj (show bitsOf x.toNat ++ bitsB l = bitsOf y.toNat ++ bitsB m from e) (by rw [bitsOf_len, bitsOf_len])
    rw [bitsB_inj (by simpa using h) e2, UInt8.toNat_inj.1 (bitsOf_inj x.toNat_lt y.toNat_lt e1)]
theorem stN_zeros : ∀ (k x : Nat), crcBits x (List.replicate k false) = stN k x
  | 0, _ => rfl
  | k + 1, x => by
    rw [List.replicate_succ]
    show crcBits (crcBit x false) (List.replicate k false) = stN k (st x)
    rw [stN_zeros k]
    rfl
theorem wordB_bits : ∀ w : List Bool, ((List.range w.length).map fun i => wordB w / 2 ^ i % 2 == 1) = w
  | [] => rfl
  | b :: w => by
    have ih := wordB_bits w
    rw [List.length_cons, List.range_succ_eq_map, List.map_cons, List.map_map]
    have e : ((fun i => wordB (b :: w) / 2 ^ i % 2 == 1) ∘ Nat.succ) = fun i => wordB w / 2 ^ i % 2 == 1 := by
      funext i
      have h : wordB (b :: w) / 2 = wordB w := by simp only [wordB]; split <;> omega
      simp only [Function.comp, Nat.succ_eq_add_one]
      rw [Nat.pow_succ, Nat.mul_comm (2 ^ i) 2, ← Nat.div_div_eq_div_mul, h]
    rw [e, ih]
    congr 1
    simp only [wordB, Nat.pow_zero, Nat.div_one]
    cases b
    · have h : (0 + 2 * wordB w) % 2 = 0 := by omega
      simp []
    · have h : (1 + 2 * wordB w) % 2 = 1 := by omega
      simp [h]
theorem crcBit_zero0 : crcBit 0 false = 0 := by decide
theorem crcBits_lt (w : List Bool) {s : Nat} (h : s < 4294967296) : crcBits s w < 4294967296 := foldl_lt w s h
theorem crcBits_0 : ∀ k, crcBits 0 (List.replicate k false) = 0
  | 0 => rfl
  | k + 1 => by
    rw [List.replicate_succ]
    show crcBits (crcBit 0 false) _ = 0
    rw [crcBit_zero0]
    exact crcBits_0 k
/-- A row of up to 32 bits between bits that are not set leaves the sum 0 only if none of them is set. -/
theorem crc_burst {i j : Nat} {w : List Bool} (hw : w.length ≤ 32) (h : crcBits 0 (List.replicate i false ++ (w ++ List.replicate j false)) = 0) : w = List.replicate w.length false := by
  have e : crcBits 0 (List.replicate i false ++ (w ++ List.replicate j false)) = crcBits (crcBits (crcBits 0 (List.replicate i false)) w) (List.replicate j false) := by
    unfold crcBits; rw [List.foldl_append, List.foldl_append]
  rw [e, crcBits_0] at h
  have h1 := crcBits_zeros (crcBits_lt w (by omega)) h
  have h2 := fold_bits w.length 0 (wordB w)
  rw [wordB_bits w, Nat.zero_xor, Nat.mod_eq_of_lt (wordB_lt w), ← stN_zeros] at h2
  have h3 : wordB w < 4294967296 := Nat.lt_of_lt_of_le (wordB_lt w) (Nat.pow_le_pow_right (by omega) hw : 2 ^ w.length ≤ 2 ^ 32)
  exact wordB_zero w (crcBits_zeros h3 (by rw [← h2]; exact h1))
/-! The sum behind a file's bytes: all together always have one sum. -/
theorem bits_at (n k : Nat) : bitsOf (n / 2 ^ k % 256) = (List.range 8).map fun i => n / 2 ^ (k + i) % 2 == 1 := by
  unfold bitsOf
  refine List.map_congr_left fun i hi => ?_
  have hi := List.mem_range.1 hi
  rw [Nat.pow_add, ← Nat.div_div_eq_div_mul]
  generalize n / 2 ^ k = x
  have : i = 0 ∨ i = 1 ∨ i = 2 ∨ i = 3 ∨ i = 4 ∨ i = 5 ∨ i = 6 ∨ i = 7 := by omega
  have e : x % 256 / 2 ^ i % 2 = x / 2 ^ i % 2 := by
    rcases this with rfl | rfl | rfl | rfl | rfl | rfl | rfl | rfl <;> simp only [Nat.reducePow] <;> omega
  rw [e]
theorem bits_fixed (n : Nat) : bitsB (fixed n) = (List.range 32).map fun i => n / 2 ^ i % 2 == 1 := by
  have h0 := bits_at n 0
  have h1 := bits_at n 8
  have h2 := bits_at n 16
  have h3 := bits_at n 24
  have e : ∀ x : Nat, (UInt8.ofNat x).toNat = x % 256 := fun x => by simp
  show bitsOf (UInt8.ofNat n).toNat ++ (bitsOf (UInt8.ofNat (n / 256)).toNat ++ (bitsOf (UInt8.ofNat (n / 65536)).toNat ++ (bitsOf (UInt8.ofNat (n / 16777216)).toNat ++ []))) = _
  rw [e, e, e, e]
  simp only [Nat.reducePow, Nat.div_one] at h0 h1 h2 h3
  rw [h0, h1, h2, h3]
  rfl
theorem xor_inv (c : Nat) : c ^^^ inv32 c = 4294967295 := by
  unfold inv32
  rw [Nat.xor_comm 4294967295 c, ← Nat.xor_assoc, Nat.xor_self, Nat.zero_xor]
theorem crc_whole (D : List UInt8) : crcAll 4294967295 (D ++ fixed (crcB D)) = stN 32 4294967295 := by
  have hl := crcAll_lt D 4294967295 (by omega)
  have e : crcAll 4294967295 (D ++ fixed (crcB D)) = crcAll (crcAll 4294967295 D) (fixed (crcB D)) := by unfold crcAll; rw [List.foldl_append]
  rw [e, crcB, crcAll_bits (fixed _), bits_fixed]
  have h := fold_bits 32 (crcAll 4294967295 D) (inv32 (crcAll 4294967295 D))
  rw [Nat.mod_eq_of_lt (show _ < 2 ^ 32 from inv32_lt hl), xor_inv] at h
  exact h
theorem okF_whole {x : List UInt8} (h : okF x = true) : crcAll 4294967295 x = stN 32 4294967295 := by
  have hl := (okF_len h).1
  unfold okF at h
  simp only [Bool.and_eq_true, decide_eq_true_eq] at h
  obtain ⟨⟨_, _⟩, h2⟩ := h
  obtain ⟨st, e⟩ : ∃ st, (fixR (some (x.drop (x.length - 4)))).2 = st := ⟨_, rfl⟩
  have h4 : (x.drop (x.length - 4)).length = 4 := by rw [List.length_drop]; omega
  match hd : x.drop (x.length - 4), h4 with
  | [a, b, c, d], _ =>
    have h5 := fixR_inv (st := some [a, b, c, d]) (n := (fixR (some [a, b, c, d])).1) (x := []) rfl
    rw [hd] at h2
    rw [h2, List.append_nil] at h5
    have h6 : [a, b, c, d] = fixed (crcB (x.take (x.length - 4))) := by injection h5
    have h7 : x = x.take (x.length - 4) ++ fixed (crcB (x.take (x.length - 4))) := by rw [← h6, ← hd, List.take_append_drop]
    rw [h7]
    exact crc_whole _
/-! What a burst turns. -/
def tog (l : List UInt8) (p : Nat) (c : Bool) : List UInt8 := l.set (p / 8) (UInt8.ofNat ((l.getD (p / 8) 0).toNat ^^^ (if c then 2 ^ (p % 8) else 0)))
theorem tog_len (l : List UInt8) (p : Nat) (c : Bool) : (tog l p c).length = l.length := by unfold tog; rw [List.length_set]
theorem bits_tog1 {n q : Nat} (hn : n < 256) (hq : q < 8) (c : Bool) : bitsOf (UInt8.ofNat (n ^^^ (if c then 2 ^ q else 0))).toNat = (bitsOf n).set q ((bitsOf n).getD q false != c) := by
  have k : ∀ a : Fin 256, ∀ q : Fin 8, ∀ c : Bool, bitsOf (UInt8.ofNat (a.val ^^^ (if c then 2 ^ q.val else 0))).toNat = (bitsOf a.val).set q.val ((bitsOf a.val).getD q.val false != c) := by decide +kernel
  exact k ⟨n, hn⟩ ⟨q, hq⟩ c
theorem bits_tog : ∀ (l : List UInt8) (p : Nat) (c : Bool), p < 8 * l.length → bitsB (tog l p c) = (bitsB l).set p ((bitsB l).getD p false != c)
  | [], p, _, h => by simp at h
  | b :: l, p, c, h => by
    by_cases hp : p < 8
    · have e0 : p / 8 = 0 := by omega
      have e1 : p % 8 = p := by omega
      unfold tog
      rw [e0, e1, List.set_cons_zero, List.getD_cons_zero]
      show bitsOf _ ++ bitsB l = (bitsOf b.toNat ++ bitsB l).set p _
      rw [bits_tog1 b.toNat_lt hp, List.set_append_left _ _ (by rw [bitsOf_len]; exact hp)]
      congr 2
      rw [List.getD_eq_getElem?_getD, List.getD_eq_getElem?_getD, show bitsB (b :: l) = bitsOf b.toNat ++ bitsB l from rfl, List.getElem?_append_left (by rw [bitsOf_len]; exact hp)]
    · obtain ⟨q, rfl⟩ : ∃ q, p = q + 8 := ⟨p - 8, by omega⟩
      have e0 : (q + 8) / 8 = q / 8 + 1 := by omega
      have e1 : (q + 8) % 8 = q % 8 := by omega
      have ih := bits_tog l q c (by rw [List.length_cons] at h; omega)
      unfold tog at ih ⊢
      rw [e0, e1, List.set_cons_succ, List.getD_cons_succ]
      show bitsOf b.toNat ++ bitsB _ = (bitsOf b.toNat ++ bitsB l).set (q + 8) _
      have e2 : (bitsB (b :: l)).getD (q + 8) false = (bitsB l).getD q false := by
        show (bitsOf b.toNat ++ bitsB l).getD (q + 8) false = _
        rw [List.getD_eq_getElem?_getD, List.getElem?_append_right (by rw [bitsOf_len]; omega), bitsOf_len, Nat.add_sub_cancel, ← List.getD_eq_getElem?_getD]
      rw [ih, e2, List.set_append_right _ _ (by rw [bitsOf_len]; omega), bitsOf_len, Nat.add_sub_cancel]
def burstL : Nat → List UInt8 → Nat → Nat → List UInt8
  | 0, l, _, _ => l
  | k + 1, l, p, m => if m = 0 ∨ 8 * l.length ≤ p then l else burstL k (tog l p (m % 2 == 1)) (p + 1) (m / 2)
theorem burstL_len : ∀ (k : Nat) (l : List UInt8) (p m : Nat), (burstL k l p m).length = l.length
  | 0, _, _, _ => rfl
  | k + 1, l, p, m => by
    rw [burstL]
    split
    · rfl
    · rw [burstL_len k, tog_len]
theorem burst_bits : ∀ (k : Nat) (l : List UInt8) (p m : Nat), ∃ f : Nat → Bool, (∀ i, f i = true → p ≤ i ∧ i < p + k) ∧ ∀ i, i < 8 * l.length → (bitsB (burstL k l p m)).getD i false = ((bitsB l).getD i false != f i)
  | 0, l, p, m => ⟨fun _ => false, by simp, fun i _ => by simp [burstL]⟩
  | k + 1, l, p, m => by
    rw [burstL]
    split
    · exact ⟨fun _ => false, by simp, fun i _ => by simp⟩
    · rename_i hc
      obtain ⟨f, h1, h2⟩ := burst_bits k (tog l p (m % 2 == 1)) (p + 1) (m / 2)
      refine ⟨fun i => if i = p then m % 2 == 1 else f i, fun i hi => ?_, fun i hi => ?_⟩
      · dsimp only at hi
        split at hi
        · omega
        · have := h1 i hi; omega
      · rw [h2 i (by rw [tog_len]; exact hi), bits_tog l p _ (by omega)]
        dsimp only
        by_cases hp : i = p
        · subst hp
          have h3 : f i = false := by
            cases e : f i
            · rfl
            · have := h1 i e; omega
          rw [h3, if_pos rfl, List.getD_eq_getElem?_getD, List.getElem?_set_self (by rw [bitsB_len]; exact hi)]
          simp
        · rw [if_neg hp, List.getD_eq_getElem?_getD, List.getElem?_set_ne (Ne.symm hp), ← List.getD_eq_getElem?_getD]
/-- A burst that turns something makes bytes of another sum. -/
theorem burst_seen {l : List UInt8} {p m : Nat} (h : crcAll 4294967295 (burstL 32 l p m) = crcAll 4294967295 l) : burstL 32 l p m = l := by
  obtain ⟨f, h1, h2⟩ := burst_bits 32 l p m
  have hx := bitsB_len (burstL 32 l p m)
  have hb := bitsB_len l
  rw [burstL_len] at hx
  rw [crcAll_bits, crcAll_bits] at h
  have h3 := crcBits_xor (bitsB (burstL 32 l p m)) (bitsB l) 4294967295 4294967295 (by rw [hx, hb])
  rw [h, Nat.xor_self, Nat.xor_self] at h3
  have hz : (bitsB (burstL 32 l p m)).zipWith (fun x y => x != y) (bitsB l) = (List.range (8 * l.length)).map f := by
    refine List.ext_getElem (by rw [List.length_zipWith, hx, hb, List.length_map, List.length_range]; omega) fun i g1 g2 => ?_
    rw [List.length_map, List.length_range] at g2
    have h4 := h2 i g2
    rw [List.getD_eq_getElem?_getD, List.getD_eq_getElem?_getD, List.getElem?_eq_getElem (by rw [hx]; exact g2), List.getElem?_eq_getElem (by rw [hb]; exact g2)] at h4
    simp only [Option.getD_some] at h4
    rw [List.getElem_zipWith, h4, List.getElem_map, List.getElem_range]
    cases (bitsB l)[i]'(by rw [hb]; exact g2) <;> cases f i <;> rfl
  rw [hz] at h3
  have hf : ∀ i, i < 8 * l.length → f i = false := by
    intro i hi
    cases e : f i
    · rfl
    · exfalso
      obtain ⟨g1, g2⟩ := h1 i e
      have e1 : List.range (8 * l.length) = List.range' 0 p ++ (List.range' p (min 32 (8 * l.length - p)) ++ List.range' (p + min 32 (8 * l.length - p)) (8 * l.length - p - min 32 (8 * l.length - p))) := by
        have a1 := List.range'_append_1 (s := p) (m := min 32 (8 * l.length - p)) (n := 8 * l.length - p - min 32 (8 * l.length - p))
        have a2 := List.range'_append_1 (s := 0) (m := p) (n := 8 * l.length - p)
        rw [show min 32 (8 * l.length - p) + (8 * l.length - p - min 32 (8 * l.length - p)) = 8 * l.length - p by omega] at a1
        rw [a1, List.range_eq_range']
        rw [Nat.zero_add, show p + (8 * l.length - p) = 8 * l.length by omega] at a2
        exact a2.symm
      have z1 : (List.range' 0 p).map f = List.replicate p false := by
        rw [List.eq_replicate_iff]
        refine ⟨by simp, fun b hb => ?_⟩
        obtain ⟨j, hj, rfl⟩ := List.mem_map.1 hb
        have hj := List.mem_range'_1.1 hj
        cases e2 : f j
        · rfl
        · have := h1 j e2; omega
      have z2 : (List.range' (p + min 32 (8 * l.length - p)) (8 * l.length - p - min 32 (8 * l.length - p))).map f = List.replicate (8 * l.length - p - min 32 (8 * l.length - p)) false := by
        rw [List.eq_replicate_iff]
        refine ⟨by simp, fun b hb => ?_⟩
        obtain ⟨j, hj, rfl⟩ := List.mem_map.1 hb
        have hj := List.mem_range'_1.1 hj
        cases e2 : f j
        · rfl
        · have := h1 j e2; omega
      rw [e1, List.map_append, List.map_append, z1, z2] at h3
      have h5 := crc_burst (by rw [List.length_map, List.length_range']; omega) h3
      rw [List.eq_replicate_iff] at h5
      have h6 := h5.2 (f i) (List.mem_map.2 ⟨i, List.mem_range'_1.2 (by omega), rfl⟩)
      rw [e] at h6
      cases h6
  refine bitsB_inj (burstL_len _ _ _ _) (List.ext_getElem (by rw [hx, hb]) fun i g1 g2 => ?_)
  rw [hb] at g2
  have h4 := h2 i g2
  rw [List.getD_eq_getElem?_getD, List.getD_eq_getElem?_getD, List.getElem?_eq_getElem g1, List.getElem?_eq_getElem (by rw [hb]; exact g2)] at h4
  simp only [Option.getD_some] at h4
  rw [h4, hf i g2]
  cases (bitsB l)[i]'(by rw [hb]; exact g2) <;> rfl
theorem okF_burst {b : List UInt8} (h : okF b = true) {p m : Nat} (hx : burstL 32 b p m ≠ b) : okF (burstL 32 b p m) = false := by
  cases e : okF (burstL 32 b p m)
  · rfl
  · exact absurd (burst_seen (by rw [okF_whole e, okF_whole h])) hx
end Go.Proofs.YtohpeoakdgckfaaGreat
