
/- mudlarkkit.Pick, frame.Burst: their contracts. -/
import Derived.Test.YtohpeoakdgckfaaGreatPu
import Derived.Test.YtohpeoakdgckfaaGreatGo
import Derived.Test.YtohpeoakdgckfaaGreatBu
import Derived.Test.YtohpeoakdgckfaaGreatCl
namespace Go.Proofs.YtohpeoakdgckfaaGreat
open Go.RowKit Sx

namespace Sx
section
variable {P : Program} {r : Hp} {t : List Value} {d : Option Tmp} {ty : TypeId} {pos : String} {af : Array Edge} {gd : Option (Nat × Bool)}
theorem kd_ptr {T : TypeId} (h : kdB P T = some .ptr) : ∃ u, P.underlying T = some (.pointer u) := by
  unfold kdB at h
  split at h <;> first | (cases h; done) | exact ⟨_, by assumption⟩
theorem nil_run {T : TypeId} {x : Option Addr} {w : World} [h : TyKd P T .ptr] : (Op.equal T (.pointer x) (.pointer none)).run P w = .ok x.isNone w := by
  obtain ⟨u, hu⟩ := kd_ptr h.kd
  show (Op.equalIn (9999 + 1) T (.pointer x) (.pointer none)).run P w = _
  unfold Op.equalIn
  cases x <;> simp [Sem.run_bind, Sem.run_pure, Result.andThen, run_underlying hu]
theorem pu_eqPn {T T' : TypeId} {x y : Operand} [TyKd P T .ptr] (hx : evO t x = some (.pointer none)) (hy : evO t y = some (.pointer none)) : Pur P r t ⟨d, .binOp .eql T x y T', ty, pos, af, gd⟩ (.bool true) := by
  refine ⟨rfl, fun w _ => ?_⟩
  simp [execOp, ev_of hx, ev_of hy, eqGuard, binOp, Result.andThen, nil_run]
theorem pu_eqPs {T T' : TypeId} {x y : Operand} {a : Addr} [TyKd P T .ptr] (hx : evO t x = some (.pointer (some a))) (hy : evO t y = some (.pointer none)) : Pur P r t ⟨d, .binOp .eql T x y T', ty, pos, af, gd⟩ (.bool false) := by
  refine ⟨rfl, fun w _ => ?_⟩
  simp [execOp, ev_of hx, ev_of hy, eqGuard, binOp, Result.andThen, nil_run]
theorem pu_nePn {T T' : TypeId} {x y : Operand} [TyKd P T .ptr] (hx : evO t x = some (.pointer none)) (hy : evO t y = some (.pointer none)) : Pur P r t ⟨d, .binOp .neq T x y T', ty, pos, af, gd⟩ (.bool false) := by
  refine ⟨rfl, fun w _ => ?_⟩
  simp [execOp, ev_of hx, ev_of hy, eqGuard, binOp, Result.andThen, nil_run]
theorem pu_nePs {T T' : TypeId} {x y : Operand} {a : Addr} [TyKd P T .ptr] (hx : evO t x = some (.pointer (some a))) (hy : evO t y = some (.pointer none)) : Pur P r t ⟨d, .binOp .neq T x y T', ty, pos, af, gd⟩ (.bool true) := by
  refine ⟨rfl, fun w _ => ?_⟩
  simp [execOp, ev_of hx, ev_of hy, eqGuard, binOp, Result.andThen, nil_run]
theorem pu_remT {T T' : TypeId} {x y : Operand} {k : IntKind} {a b : Int} (hx : evO t x = some (.int k a)) (hy : evO t y = some (.int k b)) (hb : b ≠ 0) : Pur P r t ⟨d, .binOp .rem T x y T', ty, pos, af, gd⟩ (.int k (a.tmod b)) := by
  refine ⟨rfl, fun w _ => ?_⟩
  simp [execOp, ev_of hx, ev_of hy, eqGuard, binOp, Op.intDiv, Sem.run_pure, hb]
end
end Sx
end Go.Proofs.YtohpeoakdgckfaaGreat

namespace Go.Proofs.YtohpeoakdgckfaaGreat
open Go.RowKit Sx

theorem tmod_emod {x n : Int} (hn : 1 ≤ n) : (if x.tmod n < 0 then x.tmod n + n else x.tmod n) = x % n ∧ -n < x.tmod n ∧ x.tmod n < n := by
  have h1 := Int.emod_nonneg x (show n ≠ 0 by omega)
  have h2 := Int.emod_lt_of_pos x (show 0 < n by omega)
  have h3 := Int.tmod_eq_emod (a := x) (b := n)
  have h5 : ((n.natAbs : Nat) : Int) = n := by omega
  by_cases h4 : 0 ≤ x ∨ n ∣ x
  · rw [if_pos h4] at h3
    split <;> omega
  · rw [if_neg h4, h5] at h3
    have h6 : x % n ≠ 0 := fun h => h4 (.inr (Int.dvd_of_emod_eq_zero h))
    split <;> omega
set_option maxHeartbeats 1000000 in
theorem pick_any (r : Hp) (x n : Int) (hn : n ≤ 1000000000000) : Tri Tryz.prog r 26 [.int .i64 x, .int .i64 n] [] fun w H => w = .int .i64 (if n < 1 then 0 else x % n) ∧ H = [] := by
  refine Tri.free2 fun R HR => ?_
  by_cases h1 : n < 1
  · rw [if_pos h1] at HR
    refine fn_of_sw Tryz.func26 rfl _ rfl ?_; refine aen Tryz.ntmps26 ?_
    repeat' (first | (exfalso; first | contradiction | omega) | refine aw0 ?_ | (refine ap2 ?_ ?_ <;> try intro h) | refine aw1 ?_ | (refine abx ?_; intro bb) | (refine abz ?_; intro bz) | (refine ahv ?_; intro v' hv') | (refine aac ?_; intro ac cc) | refine aw2 ?_ | (refine ap4 ?_ ?_ <;> try intro h) | apply True.intro)
    ((with_reducible apply fp_ret); exact res_1 rfl rfl)
    exact HR.out _ _ _ [] (by (exact atks)) ⟨rfl, rfl⟩
  · rw [if_neg h1] at HR
    obtain ⟨e, b1, b2⟩ := tmod_emod (x := x) (n := n) (by omega)
    rw [← e] at HR
    by_cases h2 : x.tmod n < 0
    · rw [if_pos h2] at HR
      refine fn_of_sw Tryz.func26 rfl _ rfl ?_; refine aen Tryz.ntmps26 ?_
      repeat' (first | ((with_reducible apply swo_pur); (with_reducible apply pu_remT); rfl; rfl; (omega); (refine apk ?_)) | (exfalso; first | contradiction | omega) | refine aw0 ?_ | (refine ap2 ?_ ?_ <;> try intro h) | refine aw1 ?_ | (refine abx ?_; intro bb) | (refine abz ?_; intro bz) | (refine ahv ?_; intro v' hv') | (refine aac ?_; intro ac cc) | refine aw2 ?_ | (refine ap4 ?_ ?_ <;> try intro h) | apply True.intro)
      ((with_reducible apply fp_ret); exact res_1 rfl rfl)
      exact HR.out _ _ _ [] (by (exact atks)) ⟨rfl, rfl⟩
    · rw [if_neg h2] at HR
      refine fn_of_sw Tryz.func26 rfl _ rfl ?_; refine aen Tryz.ntmps26 ?_
      repeat' (first | ((with_reducible apply swo_pur); (with_reducible apply pu_remT); rfl; rfl; (omega); (refine apk ?_)) | (exfalso; first | contradiction | omega) | refine aw0 ?_ | (refine ap2 ?_ ?_ <;> try intro h) | refine aw1 ?_ | (refine abx ?_; intro bb) | (refine abz ?_; intro bz) | (refine ahv ?_; intro v' hv') | (refine aac ?_; intro ac cc) | refine aw2 ?_ | (refine ap4 ?_ ?_ <;> try intro h) | apply True.intro)
      ((with_reducible apply fp_ret); exact res_1 rfl rfl)
      exact HR.out _ _ _ [] (by (exact atks)) ⟨rfl, rfl⟩
theorem bit_and1 (m : Nat) (h : m < 4294967296) : bitI .and .u32 (m : Int) 1 = ((m % 2 : Nat) : Int) := by
  have e : (BitVec.ofInt 32 (m : Int) &&& BitVec.ofInt 32 1).toNat = m % 2 := by
    rw [BitVec.toNat_and]
    simp [Nat.mod_eq_of_lt h, Nat.and_one_is_mod]
  show IntKind.u32.wrap (((BitVec.ofInt 32 (m : Int) &&& BitVec.ofInt 32 1).toNat : Nat) : Int) = _
  rw [e, IntKind.wrap_u32]
  omega
theorem bit_shx {n q : Nat} (hn : n < 256) (hq : q < 8) (c : Bool) : bitI .xor .u8 (n : Int) (IntKind.u8.wrap (((if c then 1 else 0 : Nat) : Int) * 2 ^ q)) = (((UInt8.ofNat (n ^^^ (if c then 2 ^ q else 0))).toNat : Nat) : Int) := by
  have k : ∀ a : Fin 256, ∀ q : Fin 8, ∀ c : Bool, bitI .xor .u8 ((a.val : Nat) : Int) (IntKind.u8.wrap (((if c then 1 else 0 : Nat) : Int) * 2 ^ q.val)) = (((UInt8.ofNat (a.val ^^^ (if c then 2 ^ q.val else 0))).toNat : Nat) : Int) := by decide +kernel
  exact k ⟨n, hn⟩ ⟨q, hq⟩ c
set_option maxRecDepth 10000 in
set_option maxHeartbeats 4000000 in
theorem burst_any (r : Hp) (v : Value) (b : List UInt8) (p m : Nat) (hv : U8S r v b) (hb : b.length ≤ 1000000) (hp : p ≤ 100000000) (hm : m < 4294967296) : Tri Tryz.prog r 25 [v, .int .i64 p, .int .u32 m] [] fun w H => ∃ a c, w = .slice a (burstL 32 b p m).length c ∧ H = [U8R w (burstL 32 b p m)] := by
  refine Tri.free2 fun R HR => ?_
  have hcl := clone_any r v b hv (by omega)
  refine fn_of_sw Tryz.func25 rfl _ rfl ?_; refine aen Tryz.ntmps25 ?_
  repeat' (first | (refine acl Tryz.func73 ?_; refine acr (hcl) ?_; rintro v' H' ⟨a1, c1, rfl, rfl⟩; all_goals refine apl ?_) | refine aw0 ?_ | (refine ap2 ?_ ?_ <;> try intro h) | refine aw1 ?_ | (refine abx ?_; intro bb) | (refine abz ?_; intro bz) | (refine ahv ?_; intro v' hv') | (refine aac ?_; intro ac cc) | refine aw2 ?_ | (refine ap4 ?_ ?_ <;> try intro h) | apply True.intro)
  refine sw_loop (fun gm t H' => ∃ (k q n : Nat) (L : List UInt8), gm = k + 1 ∧ (burstL k L q n = burstL 32 b p m) ∧ (n < 2 ^ k) ∧ (k ≤ 32) ∧ (L.length = b.length) ∧ (q + k ≤ p + 32) ∧ (∃ G, Takes [U8R (.slice a1 L.length c1) L] H' G) ∧ Sls t 41 [(0, v), (1, .int .i64 q), (2, .int .u32 n), (7, .slice a1 L.length c1)]) _ ⟨32, p, m, b, rfl, rfl, hm, Nat.le_refl _, rfl, Nat.le_refl _, ⟨_, atks⟩, asls⟩ ?_
  rintro gm t H' ⟨k, q, n, L, rfl, hL, hk, hk2, hLl, hq, ⟨G, hp⟩, hs'⟩
  revert t; refine sls_all ?_; iterate 37 intro uu'
  refine sw_takeG hp ?_; clear hp
  have hn32 : n < 4294967296 := Nat.lt_of_lt_of_le hk (Nat.pow_le_pow_right (by omega) hk2 : 2 ^ k ≤ 2 ^ 32)
  by_cases hgo : n = 0 ∨ 8 * L.length ≤ q
  · have he : burstL 32 b p m = L := by
      rw [← hL]
      cases k with
      | zero => rfl
      | succ k => rw [burstL, if_pos hgo]
    rw [he] at HR
    repeat' (first | (exfalso; first | contradiction | omega) | refine aw0 ?_ | (refine ap2 ?_ ?_ <;> try intro h) | refine aw1 ?_ | (refine abx ?_; intro bb) | (refine abz ?_; intro bz) | (refine ahv ?_; intro v' hv') | (refine aac ?_; intro ac cc) | refine aw2 ?_ | (refine ap4 ?_ ?_ <;> try intro h) | apply True.intro)
    all_goals (((with_reducible apply fp_ret); exact res_1 rfl rfl); exact HR.out _ _ _ [U8R _ _] (by (exact atks)) ⟨_, _, rfl, rfl⟩)
  · obtain ⟨k, rfl⟩ : ∃ j, k = j + 1 := by
      cases k with
      | zero => exfalso; rw [Nat.pow_zero] at hk; omega
      | succ k => exact ⟨k, rfl⟩
    rw [burstL, if_neg hgo] at hL
    have hqb : q / 8 < L.length := by omega
    have hx := (L.getD (q / 8) 0).toNat_lt
    have hld : (u8s L)[(((q : Nat) : Int) / 8).toNat * 1]? = some (.int .u8 ((L.getD (q / 8) 0).toNat : Nat)) := by
      rw [show (((q : Nat) : Int) / 8).toNat * 1 = q / 8 by omega, u8s_get hqb, List.getD_eq_getElem?_getD, List.getElem?_eq_getElem hqb]; rfl
    have ha := bit_and1 n hn32
    have hsx := bit_shx hx (show q % 8 < 8 by omega) (n % 2 == 1)
    have hc1 : (((if (n % 2 == 1) then 1 else 0 : Nat) : Nat) : Int) = ((n % 2 : Nat) : Int) := by
      rcases Nat.mod_two_eq_zero_or_one n with h | h <;> rw [h] <;> rfl
    have hc2 : (((q : Nat) : Int) % 8).toNat = q % 8 := by omega
    rw [hc1] at hsx
    have hset : (u8s L).set ((((q : Nat) : Int) / 8).toNat * 1) (.int .u8 (((UInt8.ofNat ((L.getD (q / 8) 0).toNat ^^^ (if (n % 2 == 1) then 2 ^ (q % 8) else 0))).toNat : Nat) : Int)) = u8s (tog L q (n % 2 == 1)) := by
      rw [show (((q : Nat) : Int) / 8).toNat * 1 = q / 8 by omega]
      unfold tog u8s
      rw [List.map_set]
    have htl := tog_len L q (n % 2 == 1)
    have hsh : (n : Int) / 2 ^ (1 : Int).toNat = ((n / 2 : Nat) : Int) := by
      show (n : Int) / 2 ^ 1 = _
      omega
    have hul : (u8s L).length = L.length := u8s_length L
    have hpk : n / 2 < 2 ^ k := by rw [Nat.pow_succ] at hk; omega
    generalize tog L q (n % 2 == 1) = M at hset htl hL
    repeat' (first | (rw [ha]) | (rw [hc2]) | (rw [hsx]) | (rw [hset]) | (rw [hsh]) | ((with_reducible apply sw_draw (id := 4) 12 [(0, true), (1, true), (2, true), (5, true), (6, true), (7, true), (8, true), (9, true), (10, true), (3, false), (4, false), (11, true)] [(12, false), (13, false)] []); kernel_rfl; (exact atks); kernel_rfl; intro r' hl') | ((with_reducible apply kx_ldC); rfl; (exact atk); exact hld; (refine apk ?_)) | ((with_reducible apply kx_stC); exact ty_size; rfl; rfl; (exact atk); rfl; (rw [hul]; omega); (refine apk ?_)) | (exfalso; first | contradiction | omega) | refine aw0 ?_ | (refine ap2 ?_ ?_ <;> try intro h) | refine aw1 ?_ | (refine abx ?_; intro bb) | (refine abz ?_; intro bz) | (refine ahv ?_; intro v' hv') | (refine aac ?_; intro ac cc) | refine aw2 ?_ | (refine ap4 ?_ ?_ <;> try intro h) | apply True.intro)
    exact ⟨_, by omega, k, q + 1, n / 2, M, rfl, hL, hpk, by omega, by omega, by omega, ⟨_, by show Takes [RowC 5 1 (.slice a1 M.length c1) M.length (u8s M)] _ _; rw [htl]; exact atks⟩, asls⟩
end Go.Proofs.YtohpeoakdgckfaaGreat
