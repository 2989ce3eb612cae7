
/- mudlarkkit: marks; Same, Lent, Kept of bytes and files; FilesOf: their contracts. -/
import Derived.Test.YtgodcegaffgfjaaGreatDoorEl
import Derived.Test.YtgodcegaffgfjaaGreatDoorPu
import Derived.Test.YtgodcegaffgfjaaGreatDoorSx
namespace Go.Proofs.YtgodcegaffgfjaaGreatDoor
open Go.RowKit Sx

def markN (k i : Nat) : Nat := 1000003 * (k + 7) + i
def markB (k i : Nat) : UInt8 := UInt8.ofNat (markN k i * 11400714819323198485 % 18446744073709551616 / 72057594037927936)
/-- A text's mark. -/
def markT (k i : Nat) : List UInt8 := [35, UInt8.ofNat k, UInt8.ofNat (k / 256), UInt8.ofNat (k / 65536), 47, UInt8.ofNat i, UInt8.ofNat (i / 256), UInt8.ofNat (i / 65536)]
set_option maxHeartbeats 400000 in
theorem mark_any (r : Hp) (k i : Nat) (hk : k ≤ 100000000 := by omega) (hi : i ≤ 1000000000 := by omega) : Tri Tryz.prog r 88 [.int .i64 k, .int .i64 i] [] fun w H => w = .int .i64 (markN k i) ∧ H = [] := by
  refine Tri.free fun R HR => ?_
  refine fn_of_sw Tryz.func88 rfl _ rfl ?_; refine aen Tryz.ntmps88 ?_
  repeat' (first | refine aw0m ?_ | (refine ap2 ?_ ?_ <;> try intro h) | refine aw1m ?_ | (refine abx ?_; intro bb) | (refine abz ?_; intro bz) | (refine ahv ?_; intro v' hv') | (refine aac ?_; intro ac cc) | refine aw2 ?_ | (refine ap4 ?_ ?_ <;> try intro h) | apply True.intro)
  ((with_reducible apply fp_ret); exact res_1 rfl rfl)
  exact HR.out _ [] _ _ (by (exact atks)) ⟨by unfold markN; congr 1, rfl⟩
set_option maxHeartbeats 400000 in
theorem markByte_any (r : Hp) (k i : Nat) (hk : k ≤ 100000000 := by omega) (hi : i ≤ 1000000000 := by omega) : Tri Tryz.prog r 90 [.int .i64 k, .int .i64 i] [] fun w H => w = .int .u8 (markB k i).toNat ∧ H = [] := by
  refine Tri.free fun R HR => ?_
  have hm : markN k i ≤ 200000000000000 := by unfold markN; omega
  refine fn_of_sw Tryz.func90 rfl _ rfl ?_; refine aen Tryz.ntmps90 ?_
  repeat' (first | refine aw0m ?_ | (refine ap2 ?_ ?_ <;> try intro h) | (refine acl Tryz.func88 ?_; refine acr (mark_any r k i) ?_; rintro v' H' ⟨rfl, rfl⟩; all_goals refine apl ?_) | refine aw1m ?_ | (refine abx ?_; intro bb) | (refine abz ?_; intro bz) | (refine ahv ?_; intro v' hv') | (refine aac ?_; intro ac cc) | refine aw2 ?_ | (refine ap4 ?_ ?_ <;> try intro h) | apply True.intro)
  ((with_reducible apply fp_ret); exact res_1 rfl rfl)
  refine HR.out _ [] _ _ (by (exact atks)) ⟨?_, rfl⟩
  unfold markB
  generalize markN k i = m at *
  have h1 : m * 11400714819323198485 % 18446744073709551616 / 72057594037927936 < 256 := by
    have : m * 11400714819323198485 % 18446744073709551616 < 18446744073709551616 := Nat.mod_lt _ (by omega)
    omega
  have h2 : IntKind.u64.wrap ((m : Int) * 11400714819323198485) = ((m * 11400714819323198485 % 18446744073709551616 : Nat) : Int) := by
    simp [IntKind.wrap, IntKind.signed, IntKind.bits]
  rw [h2, show (2 : Int) ^ (56 : Int).toNat = ((72057594037927936 : Nat) : Int) from rfl, ← Int.natCast_ediv, UInt8.toNat_ofNat', Nat.mod_eq_of_lt h1]
  simp only [IntKind.wrap, IntKind.signed, IntKind.bits]
  congr 1
  simp; omega
set_option maxHeartbeats 400000 in
theorem markText_any (r : Hp) (k i : Nat) (_hk : k ≤ 100000000 := by omega) (_hi : i ≤ 1000000000 := by omega) : Tri Tryz.prog r 89 [.int .i64 k, .int .i64 i] [] fun w H => w = .string (bs (markT k i)) ∧ H = [] := by
  refine Tri.free fun R HR => ?_
  refine fn_of_sw Tryz.func89 rfl _ rfl ?_; refine aen Tryz.ntmps89 ?_
  repeat' (first | refine aw0m ?_ | (refine ap2 ?_ ?_ <;> try intro h) | refine aw1m ?_ | (refine abx ?_; intro bb) | (refine abz ?_; intro bz) | (refine ahv ?_; intro v' hv') | (refine aac ?_; intro ac cc) | refine aw2 ?_ | (refine ap4 ?_ ?_ <;> try intro h) | apply True.intro)
  ((with_reducible apply fp_ret); exact res_1 rfl rfl)
  refine HR.out _ _ _ [] (Takes.all) ⟨?_, rfl⟩
  congr 2
  have h0 : ∀ x : Nat, UInt8.ofNat ((x : Int) % 256).toNat = UInt8.ofNat x := fun x => by
    apply UInt8.toNat_inj.1
    rw [UInt8.toNat_ofNat', UInt8.toNat_ofNat']; omega
  have h1 : ∀ x : Nat, (x : Int) / 2 ^ Int.toNat 8 = ((x / 256 : Nat) : Int) := fun x => rfl
  have h2 : ∀ x : Nat, (x : Int) / 2 ^ Int.toNat 16 = ((x / 65536 : Nat) : Int) := fun x => rfl
  simp only [h1, h2, h0]
  rfl
end Go.Proofs.YtgodcegaffgfjaaGreatDoor
