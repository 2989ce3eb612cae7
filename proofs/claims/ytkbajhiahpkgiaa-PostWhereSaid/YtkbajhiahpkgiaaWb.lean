/- wire: septets, fits, the Writer: their contracts. -/
import Derived.Test.YtkbajhiahpkgiaaAp
import Derived.Test.YtkbajhiahpkgiaaIdx
import Derived.Test.YtkbajhiahpkgiaaBits
import Derived.WalkSpells
import Derived.WalkLawsBesides
import Derived.ProofKit
namespace Go.Proofs.Ytkbajhiahpkgiaa
open Go.RowKit Sx

attribute [local go_sem] Oper.semAt_some

def badNum (n : Int) : Bool := decide (n < 0) || decide (1099511627776 < n)

set_option maxHeartbeats 400000 in
theorem badNum_any (r : Hp) (n : Int) : Tri Try.prog r 77 [.int .i64 n] [] fun v H => v = .bool (badNum n) ∧ H = [] := by
  by_cases h0 : n < 0
  all_goals
    refine fn_of_sw Try.func77 rfl _ rfl ?_; simp only [Try.ntmps77, List.length_cons, List.length_nil, Nat.reduceAdd, Nat.reduceSub, List.replicate_succ, List.replicate_zero, List.nil_append, List.cons_append]
    repeat' (first | (refine ax0m ?_) | (refine abb ?_; intro b) | (with_reducible refine tr_two ?_ ?_) | (refine ax1m ?_) | (refine aac ?_; intro ac cc) | (refine ax2m ?_) | (refine ap3 ?_ ?_ <;> first | exact True.intro | intro h))
    ((with_reducible apply fp_ret); exact res_1 rfl rfl)
    exact ⟨by simp [badNum, h0], rfl⟩

theorem or128 (m : Nat) : bits BinOp.or IntKind.u8 ((m : Int) % 256) 128 = ((m % 128 + 128 : Nat) : Int) := by
  have h : ∀ a : Fin 256, bits BinOp.or IntKind.u8 ((a.val : Nat) : Int) 128 = ((a.val % 128 + 128 : Nat) : Int) := by decide +kernel
  have h1 := h ⟨m % 256, Nat.mod_lt _ (by omega)⟩
  simp only [Int.natCast_emod] at h1
  rw [show ((256 : Nat) : Int) = 256 from rfl] at h1
  rw [h1]
  omega
def u8v (b : UInt8) : List Value := [.int .u8 b.toNat]

set_option maxRecDepth 10000 in
set_option maxHeartbeats 400000 in
theorem septets_seq (r : Hp) (n : Nat) (hn : n ≤ maxNum) (Bx : Nat) : Seq Try.prog r 78 [.pointer (some ⟨Bx, 0, none⟩)] u8v (septs n) [pt Bx (.cells [.int .i64 n].toArray 3 (0, 0))] [] := by
  intro k J Jx hY
  refine Tri.free fun R HR => ?_
  have HY := hid hY
  have HN := hid hn
  clear hY hn
  refine fn_of_sw Try.func78 rfl _ rfl ?_; simp only [Try.ntmps78, List.length_cons, List.length_nil, Nat.reduceAdd, Nat.reduceSub, List.replicate_succ, List.replicate_zero, List.nil_append, List.cons_append]
  repeat' (first | (refine ax0m ?_) | (refine abb ?_; intro b) | (with_reducible refine tr_two ?_ ?_) | (refine ax1m ?_) | (refine aac ?_; intro ac cc) | (refine ax2m ?_) | (refine ap3 ?_ ?_ <;> first | exact True.intro | intro h))
  refine sw_loop (fun g t H' => ∃ j m : Nat, g = (septs n).length - j ∧ j < (septs n).length ∧ m ≤ maxNum ∧ septs m = (septs n).drop j ∧ H' = [J j, pt Bx (.cells [.int .i64 m].toArray 3 (0, 0))] ∧ (t.length = 17 ∧ t[0]? = some (.func (.yield k) #[] #[]) ∧ t[1]? = some (.pointer (some ⟨Bx, 0, none⟩)))) (septs n).length
    ⟨0, n, rfl, List.length_pos_iff.2 (septs_ne n), HN.out, List.drop_zero.symm, rfl, rfl, rfl, rfl⟩ ?_
  rintro g t H' ⟨j, m, rfl, hj, hm, hd, rfl, hlen, e0, e1⟩
  revert e0 e1; revert t; refine all_len (n := 17) ?_; intro u0 u1 u2 u3 u4 u5 u6 u7 u8 u9 u10 u11 u12 u13 u14 u15 u16 e0 e1; cases e0; cases e1
  have HD := hid hd
  have HM := hid hm
  have HJ := hid hj
  clear hd hm
  by_cases hs : m < 128
  · have he : (septs n)[j]? = some (UInt8.ofNat m) ∧ (septs n).length = j + 1 := by
      have h1 := HD.out
      rw [septs_small hs] at h1
      have h2 := congrArg (fun l => l[0]?) h1
      have h3 := congrArg List.length h1
      simp at h2 h3
      exact ⟨h2.symm, by omega⟩
    rw [List.getElem?_eq_getElem hj] at he
    have hy := HY.out j hj
    rw [Option.some.inj he.1, show u8v (UInt8.ofNat m) = [.int .u8 m] from by simp [u8v]; omega] at hy
    have HL := hid he.2
    have HY1 := hid hy
    clear hy he hj
    repeat' (first | (refine ax0m ?_) | (refine abb ?_; intro b) | (with_reducible refine tr_two ?_ ?_) | ((with_reducible apply kx_yield); rfl; exact (HY1.out); rfl; (exact atk); all_goals (refine apk ?_)) | (refine ax1m ?_) | (refine aac ?_; intro ac cc) | (refine ax2m ?_) | (refine ap3 ?_ ?_ <;> first | exact True.intro | intro h))
    · ((with_reducible apply fp_end); exact res_0 rfl)
      exact HR.out _ [pt Bx _] _ [J (j + 1)] (by (exact atks)) (.inl (by rw [HL.out]))
    · ((with_reducible apply fp_end); exact res_0 rfl)
      exact HR.out _ [] _ _ (by (exact atks)) (.inr ⟨j, _, HJ.out, rfl⟩)
  · have hob := or128 m
    have he : (septs n)[j]? = some (UInt8.ofNat (m % 128 + 128)) ∧ (septs n).drop (j + 1) = septs (m / 128) := by
      have h1 := HD.out
      rw [septs_big hs] at h1
      have h2 := drop_cons h1
      exact ⟨h2.1, h2.2.1⟩
    rw [List.getElem?_eq_getElem hj] at he
    have hkk : j + 1 < (septs n).length := by
      have h1 := congrArg List.length he.2
      have h2 := List.length_pos_iff.2 (septs_ne (m / 128))
      simp at h1
      omega
    have hy := HY.out j hj
    have hu : u8v (UInt8.ofNat (m % 128 + 128)) = [.int .u8 ((m : Int) % 128 + 128)] := by
      unfold u8v
      rw [show (UInt8.ofNat (m % 128 + 128)).toNat = m % 128 + 128 from by simp; omega]
      simp
    rw [Option.some.inj he.1, hu] at hy
    have HL := hid he.2
    have HY1 := hid hy
    clear hy he hu hj
    repeat' (first | (refine ax0m ?_) | (refine abb ?_; intro b) | (with_reducible refine tr_two ?_ ?_) | ((with_reducible apply kx_yield); rfl; exact (HY1.out); rfl; (exact atk); all_goals (refine apk ?_)) | (refine ax1m ?_) | (refine aac ?_; intro ac cc) | (refine ax2m ?_) | (refine ap3 ?_ ?_ <;> first | exact True.intro | intro h))
    · exact ⟨_, by omega, j + 1, m / 128, rfl, hkk, Nat.le_trans (Nat.div_le_self _ _) HM.out, HL.out.symm, by simp, rfl, rfl, rfl⟩
    · ((with_reducible apply fp_ret); exact res_0 rfl)
      exact HR.out _ [] _ _ (by (exact atks)) (.inr ⟨j, _, HJ.out, rfl⟩)
set_option maxHeartbeats 400000 in
theorem septets_any (r : Hp) (n : Int) : Tri Try.prog r 58 [.int .i64 n] [] fun v H => ∃ b, v = .func (.func 78) #[] #[.pointer (some ⟨b, 0, none⟩)] ∧ H = [pt b (.cells [.int .i64 n].toArray 3 (0, 0))] := by
  refine fn_of_sw Try.func58 rfl _ rfl ?_; simp only [Try.ntmps58, List.length_cons, List.length_nil, Nat.reduceAdd, Nat.reduceSub, List.replicate_succ, List.replicate_zero, List.nil_append, List.cons_append]
  repeat' (first | (refine ax0m ?_) | (refine abb ?_; intro b) | (with_reducible refine tr_two ?_ ?_) | (refine ax1m ?_) | (refine aac ?_; intro ac cc) | (refine ax2m ?_) | (refine ap3 ?_ ?_ <;> first | exact True.intro | intro h))
  ((with_reducible apply fp_ret); exact res_1 rfl rfl)
  exact ⟨_, rfl, rfl⟩

set_option maxHeartbeats 400000 in
theorem fits_any (r : Hp) (v : Value) (n : Nat) (xs : List Int) (hv : Sl r 1 v n (ints xs)) : Tri Try.prog r 57 [v] [] fun w H => w = .bool (!xs.any badNum) ∧ H = [] := by
  have hn : xs.length = n := by have := hv.1; simpa [ints] using this
  have HC := hid (contF_i1 r v n (ints xs) 77 [] [] (fun k => badNum (xs.getD k 0)) hv (goesOf Try.func77 (by kernel_rfl) rfl) (fun k u hk hu => by
    rw [ints_get (by omega)] at hu
    cases hu
    rw [show xs.getD k 0 = xs[k] from by simp [List.getD_eq_getElem?_getD, show k < xs.length by omega]]
    exact badNum_any r _))
  have he : (List.range n).any (fun k => badNum (xs.getD k 0)) = xs.any badNum := by
    rw [Bool.eq_iff_iff, List.any_eq_true, List.any_eq_true]
    constructor
    · rintro ⟨k, hk, hb⟩
      have hk' : k < xs.length := by rw [hn]; simpa using hk
      rw [show xs.getD k 0 = xs[k] from by simp [List.getD_eq_getElem?_getD, hk']] at hb
      exact ⟨_, List.getElem_mem hk', hb⟩
    · rintro ⟨x, hx, hb⟩
      obtain ⟨k, hk, rfl⟩ := List.getElem_of_mem hx
      exact ⟨k, by simp; omega, by rw [show xs.getD k 0 = xs[k] from by simp [List.getD_eq_getElem?_getD, hk]]; exact hb⟩
  rw [he] at HC
  obtain ⟨a, c, rfl⟩ := hv.form
  clear hv hn he
  refine fn_of_sw Try.func57 rfl _ rfl ?_; simp only [Try.ntmps57, List.length_cons, List.length_nil, Nat.reduceAdd, Nat.reduceSub, List.replicate_succ, List.replicate_zero, List.nil_append, List.cons_append]
  repeat' (first | (refine ax0m ?_) | (refine abb ?_; intro b) | (with_reducible refine tr_two ?_ ?_) | ((with_reducible apply kx_call (f := 76) (cap := [])); exact goesOf Try.func76 (by kernel_rfl) rfl; rfl; rfl; exact (HC.out); (exact atks); rintro v' H' ⟨rfl, rfl⟩; all_goals ((try simp only [List.nil_append]); (refine apk ?_))) | (refine ax1m ?_) | (refine aac ?_; intro ac cc) | (refine ax2m ?_) | (refine ap3 ?_ ?_ <;> first | exact True.intro | intro h))
  ((with_reducible apply fp_ret); exact res_1 rfl rfl)
  exact ⟨rfl, rfl⟩

def wri (v : Value) (bad : Bool) : Obj := .cells [v, .bool bad].toArray 66 (0, 0)
def numsOf (xs : List Int) : List UInt8 := xs.flatMap fun x => septs x.toNat
theorem numsOf_len {xs : List Int} (h : ∀ k (h : k < xs.length), ∃ m : Nat, xs[k] = (m : Int) ∧ m ≤ maxNum) (k : Nat) : (numsOf (xs.take k)).length ≤ 6 * k := by
  induction k with
  | zero => simp [numsOf]
  | succ k ih =>
    by_cases hk : k < xs.length
    · rw [List.take_succ_eq_append_getElem hk]
      obtain ⟨m, hm, hmx⟩ := h k hk
      have := septs_len6 hmx
      have e : numsOf (xs.take k ++ [xs[k]]) = numsOf (xs.take k) ++ septs m := by rw [hm]; simp [numsOf]
      rw [e, List.length_append]
      omega
    · rw [List.take_of_length_le (by omega)] at ih ⊢
      omega

end Go.Proofs.Ytkbajhiahpkgiaa
