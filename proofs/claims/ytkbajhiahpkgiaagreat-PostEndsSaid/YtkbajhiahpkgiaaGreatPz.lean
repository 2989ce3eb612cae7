
/- slices.BinarySearchFunc at postings, at places: their contracts. mudlarkkit.PostingsOf: its contract. -/
import Derived.Test.YtkbajhiahpkgiaaGreatLt
namespace Go.Proofs.YtkbajhiahpkgiaaGreat
open Go.RowKit Sx

/-- How many come ahead. -/
def Ahead (f : Nat → Int) (n i : Nat) : Prop := i ≤ n ∧ (∀ j, j < i → f j < 0) ∧ ∀ j, i ≤ j → j < n → 0 ≤ f j
def cmpD (p : PlaceV) (d : Int) : Int := if p.doc < d then -1 else 1
theorem from2c_any (r : Hp) (p : PlaceV) (d : Int) : Tri Tryz.prog r 54 [.agg (encPl p).toArray, .int .i64 d] [] fun w H => w = .int .i64 (cmpD p d) ∧ H = [] := from2_any r p d
set_option maxRecDepth 10000 in
set_option maxHeartbeats 1000000 in
theorem search1_any (r : Hp) (v : Value) (xs : List PostV) (g : List UInt8) (hv : Posts r v xs) (hn : xs.length ≤ 1000000000) (hmono : ∀ a b, a ≤ b → b < xs.length → cmpG (xs.getD b default).gram g < 0 → cmpG (xs.getD a default).gram g < 0) :
    Tri Tryz.prog r 51 [v, .string (bs g), .func (.func 52) #[] #[]] [] fun w H => ∃ i : Nat, Ahead (fun j => cmpG (xs.getD j default).gram g) xs.length i ∧ w = .tuple #[.int .i64 i, .bool (decide (i < xs.length ∧ cmpG (xs.getD i default).gram g = 0))] ∧ H = [] := by
  refine Tri.free2 fun R HR => ?_
  have hve := hv.1
  refine fn_of_sw Tryz.func51 rfl _ rfl ?_; refine aen Tryz.ntmps51 ?_
  repeat' (first | refine aw0m ?_ | (refine ap2 ?_ ?_ <;> try intro h) | refine aw1m ?_ | (refine abx ?_; intro bb) | (refine abz ?_; intro bz) | (refine ahv ?_; intro v' hv') | (refine aac ?_; intro ac cc) | refine aw2 ?_ | (refine ap4 ?_ ?_ <;> try intro h) | apply True.intro)
  refine sw_loop (fun gm t H' => ∃ (l u : Nat), gm = u - l ∧ (l ≤ u) ∧ (u ≤ xs.length) ∧ (∀ j, j < l → cmpG (xs.getD j default).gram g < 0) ∧ (∀ j, u ≤ j → j < xs.length → 0 ≤ cmpG (xs.getD j default).gram g) ∧ (∃ G, Takes [] H' G) ∧ Sls t 49 [(0, v), (1, .string (bs g)), (2, .func (.func 52) #[] #[]), (8, .int .i64 xs.length), (9, .int .i64 l), (10, .int .i64 u)]) _ ⟨0, xs.length, rfl, Nat.zero_le _, Nat.le_refl _, (by intro j hj; omega), (by intro j hj hk; omega), ⟨_, by (exact atks)⟩, asls⟩ ?_
  rintro gm t H' ⟨l, u, rfl, hlh, hh, hL, hH, ⟨G, hp⟩, hs'⟩
  revert t; refine sls_all ?_; iterate 43 intro uu'
  refine sw_takeG hp ?_; clear hp
  by_cases hlt : l < u
  · repeat' (first | refine aw0m ?_ | (refine ap2 ?_ ?_ <;> try intro h) | refine aw1m ?_ | (refine abx ?_; intro bb) | (refine abz ?_; intro bz) | (refine ahv ?_; intro v' hv') | (refine aac ?_; intro ac cc) | refine aw2 ?_ | (refine ap4 ?_ ?_ <;> try intro h) | apply True.intro)
    have em : IntKind.i64.wrap (((l : Int) + u) / 2 ^ Int.toNat 1) = (((l + u) / 2 : Nat) : Int) := by
      have e1 : (2 : Int) ^ Int.toNat 1 = 2 := rfl
      rw [e1]
      simp [IntKind.wrap, IntKind.bits, IntKind.signed]
      omega
    rw [em]
    have hm1 : l ≤ (l + u) / 2 := by omega
    have hm2 : (l + u) / 2 < u := by omega
    generalize (l + u) / 2 = m at hm1 hm2 ⊢
    have hm3 : m < xs.length := by omega
    clear em
    repeat' (first | refine aw0m ?_ | (refine ap2 ?_ ?_ <;> try intro h) | (refine acl Tryz.func52 ?_; refine acr (from1_any _ (xs.getD m default) g) ?_; rintro v' H' ⟨rfl, rfl⟩; all_goals refine apl ?_) | refine aw1m ?_ | (refine abx ?_; intro bb) | (refine abz ?_; intro bz) | (refine ahv ?_; intro v' hv') | (refine aac ?_; intro ac cc) | refine aw2 ?_ | (refine ap4 ?_ ?_ <;> try intro h) | apply True.intro)
    · exact ⟨_, by omega, m + 1, u, rfl, by omega, hh, (fun j hj => hmono j m (by omega) hm3 h), hH, ⟨_, atks⟩, asls⟩
    · exact ⟨_, by omega, l, m, rfl, hm1, by omega, hL, (fun j hj hk => by
        by_cases c : cmpG (xs.getD j default).gram g < 0
        · have := hmono m j hj hk c; omega
        · omega), ⟨_, atks⟩, asls⟩
  · obtain rfl : l = u := by omega
    by_cases hl2 : l < xs.length
    · by_cases he : cmpG (xs.getD l default).gram g = 0
      · repeat' (first | refine aw0m ?_ | (refine ap2 ?_ ?_ <;> try intro h) | (refine acl Tryz.func52 ?_; refine acr (from1_any _ (xs.getD l default) g) ?_; rintro v' H' ⟨rfl, rfl⟩; all_goals refine apl ?_) | (exfalso; contradiction) | refine aw1m ?_ | (refine abx ?_; intro bb) | (refine abz ?_; intro bz) | (refine ahv ?_; intro v' hv') | (refine aac ?_; intro ac cc) | refine aw2 ?_ | (refine ap4 ?_ ?_ <;> try intro h) | apply True.intro)
        ((with_reducible apply fp_ret); exact res_2 rfl rfl rfl)
        exact HR.out _ _ _ [] (by (exact atks)) ⟨l, ⟨hh, hL, hH⟩, by simp only [hl2, he, and_self, decide_true], rfl⟩
      · repeat' (first | refine aw0m ?_ | (refine ap2 ?_ ?_ <;> try intro h) | (refine acl Tryz.func52 ?_; refine acr (from1_any _ (xs.getD l default) g) ?_; rintro v' H' ⟨rfl, rfl⟩; all_goals refine apl ?_) | (exfalso; contradiction) | refine aw1m ?_ | (refine abx ?_; intro bb) | (refine abz ?_; intro bz) | (refine ahv ?_; intro v' hv') | (refine aac ?_; intro ac cc) | refine aw2 ?_ | (refine ap4 ?_ ?_ <;> try intro h) | apply True.intro)
        ((with_reducible apply fp_ret); exact res_2 rfl rfl rfl)
        exact HR.out _ _ _ [] (by (exact atks)) ⟨l, ⟨hh, hL, hH⟩, by simp only [he, and_false, decide_false], rfl⟩
    · repeat' (first | refine aw0m ?_ | (refine ap2 ?_ ?_ <;> try intro h) | (exfalso; contradiction) | refine aw1m ?_ | (refine abx ?_; intro bb) | (refine abz ?_; intro bz) | (refine ahv ?_; intro v' hv') | (refine aac ?_; intro ac cc) | refine aw2 ?_ | (refine ap4 ?_ ?_ <;> try intro h) | apply True.intro)
      ((with_reducible apply fp_ret); exact res_2 rfl rfl rfl)
      exact HR.out _ _ _ [] (by (exact atks)) ⟨l, ⟨hh, hL, hH⟩, by simp only [hl2, false_and, decide_false], rfl⟩
set_option maxRecDepth 10000 in
set_option maxHeartbeats 1000000 in
theorem search2_any (r : Hp) (v : Value) (xs : List PlaceV) (g : Int) (hv : Els r 2 encPl v xs) (hn : xs.length ≤ 1000000000) (hmono : ∀ a b, a ≤ b → b < xs.length → cmpD (xs.getD b default) g < 0 → cmpD (xs.getD a default) g < 0) :
    Tri Tryz.prog r 53 [v, .int .i64 g, .func (.func 54) #[] #[]] [] fun w H => ∃ i : Nat, Ahead (fun j => cmpD (xs.getD j default) g) xs.length i ∧ w = .tuple #[.int .i64 i, .bool (decide (i < xs.length ∧ cmpD (xs.getD i default) g = 0))] ∧ H = [] := by
  refine Tri.free2 fun R HR => ?_
  have hve := hv
  refine fn_of_sw Tryz.func53 rfl _ rfl ?_; refine aen Tryz.ntmps53 ?_
  repeat' (first | refine aw0m ?_ | (refine ap2 ?_ ?_ <;> try intro h) | refine aw1m ?_ | (refine abx ?_; intro bb) | (refine abz ?_; intro bz) | (refine ahv ?_; intro v' hv') | (refine aac ?_; intro ac cc) | refine aw2 ?_ | (refine ap4 ?_ ?_ <;> try intro h) | apply True.intro)
  refine sw_loop (fun gm t H' => ∃ (l u : Nat), gm = u - l ∧ (l ≤ u) ∧ (u ≤ xs.length) ∧ (∀ j, j < l → cmpD (xs.getD j default) g < 0) ∧ (∀ j, u ≤ j → j < xs.length → 0 ≤ cmpD (xs.getD j default) g) ∧ (∃ G, Takes [] H' G) ∧ Sls t 49 [(0, v), (1, .int .i64 g), (2, .func (.func 54) #[] #[]), (8, .int .i64 xs.length), (9, .int .i64 l), (10, .int .i64 u)]) _ ⟨0, xs.length, rfl, Nat.zero_le _, Nat.le_refl _, (by intro j hj; omega), (by intro j hj hk; omega), ⟨_, by (exact atks)⟩, asls⟩ ?_
  rintro gm t H' ⟨l, u, rfl, hlh, hh, hL, hH, ⟨G, hp⟩, hs'⟩
  revert t; refine sls_all ?_; iterate 43 intro uu'
  refine sw_takeG hp ?_; clear hp
  by_cases hlt : l < u
  · repeat' (first | refine aw0m ?_ | (refine ap2 ?_ ?_ <;> try intro h) | refine aw1m ?_ | (refine abx ?_; intro bb) | (refine abz ?_; intro bz) | (refine ahv ?_; intro v' hv') | (refine aac ?_; intro ac cc) | refine aw2 ?_ | (refine ap4 ?_ ?_ <;> try intro h) | apply True.intro)
    have em : IntKind.i64.wrap (((l : Int) + u) / 2 ^ Int.toNat 1) = (((l + u) / 2 : Nat) : Int) := by
      have e1 : (2 : Int) ^ Int.toNat 1 = 2 := rfl
      rw [e1]
      simp [IntKind.wrap, IntKind.bits, IntKind.signed]
      omega
    rw [em]
    have hm1 : l ≤ (l + u) / 2 := by omega
    have hm2 : (l + u) / 2 < u := by omega
    generalize (l + u) / 2 = m at hm1 hm2 ⊢
    have hm3 : m < xs.length := by omega
    clear em
    repeat' (first | refine aw0m ?_ | (refine ap2 ?_ ?_ <;> try intro h) | (refine acl Tryz.func54 ?_; refine acr (from2c_any _ (xs.getD m default) g) ?_; rintro v' H' ⟨rfl, rfl⟩; all_goals refine apl ?_) | refine aw1m ?_ | (refine abx ?_; intro bb) | (refine abz ?_; intro bz) | (refine ahv ?_; intro v' hv') | (refine aac ?_; intro ac cc) | refine aw2 ?_ | (refine ap4 ?_ ?_ <;> try intro h) | apply True.intro)
    · exact ⟨_, by omega, m + 1, u, rfl, by omega, hh, (fun j hj => hmono j m (by omega) hm3 h), hH, ⟨_, atks⟩, asls⟩
    · exact ⟨_, by omega, l, m, rfl, hm1, by omega, hL, (fun j hj hk => by
        by_cases c : cmpD (xs.getD j default) g < 0
        · have := hmono m j hj hk c; omega
        · omega), ⟨_, atks⟩, asls⟩
  · obtain rfl : l = u := by omega
    by_cases hl2 : l < xs.length
    · by_cases he : cmpD (xs.getD l default) g = 0
      · repeat' (first | refine aw0m ?_ | (refine ap2 ?_ ?_ <;> try intro h) | (refine acl Tryz.func54 ?_; refine acr (from2c_any _ (xs.getD l default) g) ?_; rintro v' H' ⟨rfl, rfl⟩; all_goals refine apl ?_) | (exfalso; contradiction) | refine aw1m ?_ | (refine abx ?_; intro bb) | (refine abz ?_; intro bz) | (refine ahv ?_; intro v' hv') | (refine aac ?_; intro ac cc) | refine aw2 ?_ | (refine ap4 ?_ ?_ <;> try intro h) | apply True.intro)
        ((with_reducible apply fp_ret); exact res_2 rfl rfl rfl)
        exact HR.out _ _ _ [] (by (exact atks)) ⟨l, ⟨hh, hL, hH⟩, by simp only [hl2, he, and_self, decide_true], rfl⟩
      · repeat' (first | refine aw0m ?_ | (refine ap2 ?_ ?_ <;> try intro h) | (refine acl Tryz.func54 ?_; refine acr (from2c_any _ (xs.getD l default) g) ?_; rintro v' H' ⟨rfl, rfl⟩; all_goals refine apl ?_) | (exfalso; contradiction) | refine aw1m ?_ | (refine abx ?_; intro bb) | (refine abz ?_; intro bz) | (refine ahv ?_; intro v' hv') | (refine aac ?_; intro ac cc) | refine aw2 ?_ | (refine ap4 ?_ ?_ <;> try intro h) | apply True.intro)
        ((with_reducible apply fp_ret); exact res_2 rfl rfl rfl)
        exact HR.out _ _ _ [] (by (exact atks)) ⟨l, ⟨hh, hL, hH⟩, by simp only [he, and_false, decide_false], rfl⟩
    · repeat' (first | refine aw0m ?_ | (refine ap2 ?_ ?_ <;> try intro h) | (exfalso; contradiction) | refine aw1m ?_ | (refine abx ?_; intro bb) | (refine abz ?_; intro bz) | (refine ahv ?_; intro v' hv') | (refine aac ?_; intro ac cc) | refine aw2 ?_ | (refine ap4 ?_ ?_ <;> try intro h) | apply True.intro)
      ((with_reducible apply fp_ret); exact res_2 rfl rfl rfl)
      exact HR.out _ _ _ [] (by (exact atks)) ⟨l, ⟨hh, hL, hH⟩, by simp only [hl2, false_and, decide_false], rfl⟩
end Go.Proofs.YtkbajhiahpkgiaaGreat

namespace Go.Proofs.YtkbajhiahpkgiaaGreat
open Go.RowKit Sx

def sizeP (xs : List PostV) : Nat := (xs.map fun x => 1 + x.gram.length + x.pl.length).sum
theorem sizeP_take {xs : List PostV} {k : Nat} (h : k < xs.length) : sizeP (xs.take (k + 1)) = sizeP (xs.take k) + (1 + (xs.getD k default).gram.length + (xs.getD k default).pl.length) := by
  unfold sizeP
  rw [take_getD (d := default) h, List.map_append, List.sum_append]
  simp
theorem sizeP_le (xs : List PostV) (k : Nat) : sizeP (xs.take k) ≤ sizeP xs := by
  have e : sizeP xs = sizeP (xs.take k) + sizeP (xs.drop k) := by
    unfold sizeP
    rw [← List.sum_append, ← List.map_append, List.take_append_drop]
  omega
set_option maxRecDepth 10000 in
set_option maxHeartbeats 1000000 in
theorem postingsOf_any (r : Hp) (v : Value) (xs : List PostV) (most : Nat) (hv : Posts r v xs) (hl : ∀ x ∈ xs, x.gram.length ≤ 140737488355328 ∧ x.pl.length ≤ 140737488355328) (hm : most ≤ 1000000) : Tri Tryz.prog r 22 [v, .int .i64 most] [] fun w H => ∃ z : Nat, w = .int .i64 z ∧ (z ≤ most ↔ sizeP xs ≤ most) ∧ H = [] := by
  refine Tri.free2 fun R HR => ?_
  have hve := hv.1
  have hvn : xs.length ≤ maxLen := hve.2.2.1
  unfold maxLen at hvn
  refine fn_of_sw Tryz.func22 rfl _ rfl ?_; refine aen Tryz.ntmps22 ?_
  repeat' (first | refine aw0m ?_ | (refine ap2 ?_ ?_ <;> try intro h) | refine aw1m ?_ | (refine abx ?_; intro bb) | (refine abz ?_; intro bz) | (refine ahv ?_; intro v' hv') | (refine aac ?_; intro ac cc) | refine aw2 ?_ | (refine ap4 ?_ ?_ <;> try intro h) | apply True.intro)
  refine sw_loop (fun gm t H' => ∃ k : Nat, gm = xs.length + 1 - k ∧ (k ≤ xs.length) ∧ (∃ G, Takes [] H' G) ∧ Sls t 35 [(0, v), (1, .int .i64 most), (5, .int .i64 (sizeP (xs.take k) : Nat)), (6, .int .i64 k)]) _ ⟨0, rfl, Nat.zero_le _, ⟨_, by (exact atks)⟩, asls⟩ ?_
  rintro gm t H' ⟨k, rfl, hk, ⟨G, hp⟩, hs'⟩
  revert t; refine sls_all ?_; iterate 31 intro uu'
  refine sw_takeG hp ?_; clear hp
  have hle := sizeP_le xs k
  by_cases hlt : k < xs.length
  · have hb := hl _ (getD_mem hlt)
    have hst := sizeP_take hlt
    have hpl := hv.2 _ (getD_mem hlt)
    by_cases hz : sizeP (xs.take k) ≤ most
    · repeat' (first | refine aw0m ?_ | (refine ap2 ?_ ?_ <;> try intro h) | (first | ((with_reducible apply sw_draw (id := 5) 16 [(0, true), (1, true), (2, true), (3, true), (4, true), (5, true), (6, true), (7, true), (8, true), (9, true), (10, true), (11, true), (12, true), (13, true), (14, true), (15, true)] [(16, false)] []); kernel_rfl; (exact atks); kernel_rfl; intro r' hl')) | (exfalso; omega) | refine aw1m ?_ | (refine abx ?_; intro bb) | (refine abz ?_; intro bz) | (refine ahv ?_; intro v' hv') | (refine aac ?_; intro ac cc) | refine aw2 ?_ | (refine ap4 ?_ ?_ <;> try intro h) | apply True.intro)
      exact ⟨_, by omega, k + 1, rfl, by omega, ⟨_, atks⟩, asls⟩
    · repeat' (first | refine aw0m ?_ | (refine ap2 ?_ ?_ <;> try intro h) | (exfalso; omega) | refine aw1m ?_ | (refine abx ?_; intro bb) | (refine abz ?_; intro bz) | (refine ahv ?_; intro v' hv') | (refine aac ?_; intro ac cc) | refine aw2 ?_ | (refine ap4 ?_ ?_ <;> try intro h) | apply True.intro)
      ((with_reducible apply fp_ret); exact res_1 rfl rfl)
      exact HR.out _ _ _ [] (by (exact atks)) ⟨_, rfl, by omega, rfl⟩
  · obtain rfl : k = xs.length := by omega
    rw [List.take_length]
    repeat' (first | refine aw0m ?_ | (refine ap2 ?_ ?_ <;> try intro h) | (exfalso; omega) | refine aw1m ?_ | (refine abx ?_; intro bb) | (refine abz ?_; intro bz) | (refine ahv ?_; intro v' hv') | (refine aac ?_; intro ac cc) | refine aw2 ?_ | (refine ap4 ?_ ?_ <;> try intro h) | apply True.intro)
    ((with_reducible apply fp_ret); exact res_1 rfl rfl)
    exact HR.out _ _ _ [] (by (exact atks)) ⟨_, rfl, Iff.rfl, rfl⟩
end Go.Proofs.YtkbajhiahpkgiaaGreat
