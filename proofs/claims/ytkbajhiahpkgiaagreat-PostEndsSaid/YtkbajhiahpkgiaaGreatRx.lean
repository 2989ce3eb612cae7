
/- mudlarkref02.Writer: Number, Text, Fixed: their contracts. mudlarkref02.Writer.Number at bytes that may be marked: its contract. -/
import Derived.Test.YtkbajhiahpkgiaaGreatKi
import Derived.Test.YtkbajhiahpkgiaaGreatWe
import Derived.Test.YtkbajhiahpkgiaaGreatTw
namespace Go.Proofs.YtkbajhiahpkgiaaGreat
open Go.RowKit Sx

/-- A reference's writer in block g. -/
abbrev rwr (v : Value) (bad : Bool) : Obj := .cells [v, .bool bad].toArray 116 (0, 0)
theorem u8r_snoc (a : Option Addr) (c : Nat) (l : List UInt8) (b : UInt8) (i : Int) (hi : i = (b.toNat : Nat)) : U8R (.slice a (l.length + 1) c) (l ++ [b]) = RowC 5 1 (.slice a (l.length + 1) c) (l.length + 1) (u8s l ++ [.int .u8 i]) := by
  subst hi
  unfold U8R
  rw [List.length_append]
  simp [u8s]
theorem u8r_app (a : Option Addr) (c : Nat) (l p : List UInt8) : U8R (.slice a (l.length + p.length) c) (l ++ p) = RowC 5 1 (.slice a (l.length + p.length) c) (l.length + p.length) (u8s l ++ u8s p) := by
  unfold U8R
  rw [List.length_append]
  simp [u8s]
theorem u8_lt {n : Nat} (h : n < 256) : ((UInt8.ofNat n).toNat : Nat) = n := by simp; omega
set_option maxRecDepth 10000 in
set_option maxHeartbeats 2000000 in
theorem rwnum_any (r : Hp) (g : Nat) (v : Value) (l : List UInt8) (n : Nat) (hn : n ≤ maxNum) (hl : l.length ≤ 60000000000000) : Tri Tryz.prog r 62 [.pointer (some ⟨g, 0, none⟩), .int .i64 n] [pt g (rwr v false), U8R v l] fun _ H => ∃ v', H = [pt g (rwr v' false), U8R v' (l ++ septs n)] := by
  refine Tri.free2 fun R HR => ?_
  have h6 := septs_len6 hn
  unfold maxNum at hn
  refine fn_of_sw Tryz.func62 rfl _ rfl ?_; refine aen Tryz.ntmps62 ?_
  repeat' (first | refine aw0m ?_ | (refine ap2 ?_ ?_ <;> try intro h) | refine aw1m ?_ | (refine abx ?_; intro bb) | (refine abz ?_; intro bz) | (refine ahv ?_; intro v' hv') | (refine aac ?_; intro ac cc) | refine aw2 ?_ | (refine ap4 ?_ ?_ <;> try intro h) | apply True.intro)
  refine sw_loop (fun gm t H' => ∃ (m : Nat) (p : List UInt8) (w : Value), gm = m + 1 ∧ (m ≤ 1099511627776) ∧ (septs n = p ++ septs m) ∧ (∃ G, Takes [pt g (rwr w false), U8R w (l ++ p)] H' G) ∧ Sls t 41 [(0, .pointer (some ⟨g, 0, none⟩)), (1, .int .i64 m)]) _ ⟨n, [], v, rfl, hn, rfl, ⟨[], by rw [List.append_nil]; (exact atks)⟩, asls⟩ ?_
  rintro gm t H' ⟨m, p, w, rfl, hm, hp1, ⟨G, hp⟩, hs'⟩
  revert t; refine sls_all ?_; iterate 39 intro uu'
  refine sw_takeG hp ?_; clear hp
  have h7 : (l ++ p).length ≤ 60000000000006 := by
    have := congrArg List.length hp1
    rw [List.length_append] at this ⊢
    omega
  by_cases hlt : m < 128
  · repeat' (first | (first | ((with_reducible apply kx_bs1); exact ty_el; exact ty_inf; rfl; rfl; rfl; intro bz; (refine apk ?_)) | ((with_reducible apply kx_bsN); exact ty_el; exact ty_inf; rfl; rfl; rfl; intro bz; (refine apk ?_))) | (first | ((with_reducible apply kx_append1); exact ty_el; exact ty_inf; rfl; rfl; rfl; (exact atk); (exact atk); rfl; (omega); intro a' c'; (refine apk ?_)) | ((with_reducible apply kx_appendN); exact ty_el; exact ty_inf; rfl; rfl; rfl; rfl; (exact atk); (exact atk); rfl; rfl; (omega); intro a' c'; (refine apk ?_))) | refine aw0 ?_ | (refine ap2 ?_ ?_ <;> try intro h) | refine aw1 ?_ | (refine abx ?_; intro bb) | (refine abz ?_; intro bz) | (refine ahv ?_; intro v' hv') | (refine aac ?_; intro ac cc) | refine aw2 ?_ | (refine ap4 ?_ ?_ <;> try intro h) | apply True.intro)
    ((with_reducible apply fp_end); exact res_0 rfl)
    exact HR.out _ _ _ [pt g _, RowC 5 1 _ _ _] (by (exact atks)) ⟨_, by rw [hp1, septs_small hlt, ← List.append_assoc, u8r_snoc _ _ (l ++ p) _ _ (by rw [u8_lt (by omega)])]⟩
  · repeat' (first | (first | ((with_reducible apply kx_bs1); exact ty_el; exact ty_inf; rfl; rfl; rfl; intro bz; (refine apk ?_)) | ((with_reducible apply kx_bsN); exact ty_el; exact ty_inf; rfl; rfl; rfl; intro bz; (refine apk ?_))) | (first | ((with_reducible apply kx_append1); exact ty_el; exact ty_inf; rfl; rfl; rfl; (exact atk); (exact atk); rfl; (omega); intro a' c'; (refine apk ?_)) | ((with_reducible apply kx_appendN); exact ty_el; exact ty_inf; rfl; rfl; rfl; rfl; (exact atk); (exact atk); rfl; rfl; (omega); intro a' c'; (refine apk ?_))) | refine aw0 ?_ | (refine ap2 ?_ ?_ <;> try intro h) | refine aw1 ?_ | (refine abx ?_; intro bb) | (refine abz ?_; intro bz) | (refine ahv ?_; intro v' hv') | (refine aac ?_; intro ac cc) | refine aw2 ?_ | (refine ap4 ?_ ?_ <;> try intro h) | apply True.intro)
    exact ⟨_, by omega, m / 128, p ++ [UInt8.ofNat (m % 128 + 128)], .slice a' ((l ++ p).length + 1) c', rfl, by omega, by rw [hp1, septs_big hlt]; simp, ⟨_, by rw [← List.append_assoc, u8r_snoc _ _ (l ++ p) _ (↑m % 128 + 128) (by rw [u8_lt (by omega)]; omega)]; (exact atks)⟩, asls⟩
set_option maxHeartbeats 1000000 in
theorem rwtext_any (r : Hp) (g : Nat) (v : Value) (l : List UInt8) (pv : Value) (p : List UInt8) (hp : U8S r pv p) (hpl : p.length ≤ 1000000) (hl : l.length ≤ 50000000000000) : Tri Tryz.prog r 63 [.pointer (some ⟨g, 0, none⟩), pv] [pt g (rwr v false), U8R v l] fun _ H => ∃ v', H = [pt g (rwr v' false), U8R v' (l ++ texts p)] := by
  refine Tri.free2 fun R HR => ?_
  have h6 := septs_len6 (n := p.length) (by unfold maxNum; omega)
  refine fn_of_sw Tryz.func63 rfl _ rfl ?_; refine aen Tryz.ntmps63 ?_
  repeat' (first | (refine acl Tryz.func62 ?_; refine acr (rwnum_any r g v l p.length (by unfold maxNum; omega) (by omega)) ?_; rintro v' H' ⟨v1, rfl⟩; all_goals refine apl ?_) | ((with_reducible apply kx_appS (news := u8s p)); exact ty_el; exact ty_inf; rfl; rfl; rfl; rfl; exact hp; (exact atk); exact u8s_one p; (unfold maxLen; rw [List.length_append]; omega); (rw [List.length_append]; omega); intro a' c'; (refine apk ?_)) | refine aw0 ?_ | (refine ap2 ?_ ?_ <;> try intro h) | refine aw1 ?_ | (refine abx ?_; intro bb) | (refine abz ?_; intro bz) | (refine ahv ?_; intro v' hv') | (refine aac ?_; intro ac cc) | refine aw2 ?_ | (refine ap4 ?_ ?_ <;> try intro h) | apply True.intro)
  ((with_reducible apply fp_end); exact res_0 rfl)
  exact HR.out _ _ _ [pt g _, RowC 5 1 _ _ _] (by (exact atks)) ⟨_, by unfold texts; rw [← List.append_assoc, u8r_app]⟩
end Go.Proofs.YtkbajhiahpkgiaaGreat

namespace Go.Proofs.YtkbajhiahpkgiaaGreat
open Go.RowKit
namespace Sx
section
variable {P : Program} {l : Option Nat} {r : Hp} {Q : Exit → St} {t : List Value} {H : List Ch}
/-- What a row's piece tells of its slice. -/
theorem sw_form {c : Code} {E : TypeId} {sz n : Nat} {v : Value} {xs : List Value} {H1 : List Ch} (ht : Take (RowC E sz v n xs) H H1) (h : (∃ a cap, v = .slice a n cap) → SW P l r c Q t H) : SW P l r c Q t H := fun w g ds ok al => by
  refine h ?_ w g ds ok al
  obtain ⟨x, y, dd, e, hx, hy⟩ := ht.all al
  rcases hx.2 with ⟨rfl, rfl, _⟩ | ⟨_, _, _, rfl, _⟩ <;> exact ⟨_, _, rfl⟩
theorem sw_formM {c : Code} {E : TypeId} {sz n : Nat} {v : Value} {xs : List Value} {H1 : List Ch} (ht : Take (RowM E sz v n xs) H H1) (h : (∃ a cap, v = .slice a n cap) → SW P l r c Q t H) : SW P l r c Q t H := fun w g ds ok al => by
  refine h ?_ w g ds ok al
  obtain ⟨x, y, dd, e, hx, hy⟩ := ht.all al
  rcases hx.2 with ⟨rfl, rfl, _⟩ | ⟨_, _, _, _, rfl, _⟩ <;> exact ⟨_, _, rfl⟩
end
end Sx
open Sx

/-- Bytes that are owned, marked or not. -/
abbrev U8M (v : Value) (l : List UInt8) : Ch := RowM 5 1 v l.length (u8s l)
theorem u8m_snoc (a : Option Addr) (c : Nat) (l : List UInt8) (b : UInt8) (i : Int) (hi : i = (b.toNat : Nat)) : U8M (.slice a (l.length + 1) c) (l ++ [b]) = RowM 5 1 (.slice a (l.length + 1) c) (l.length + 1) (u8s l ++ [.int .u8 i]) := by
  subst hi
  unfold U8M
  rw [List.length_append]
  simp [u8s]
theorem u8m_app (a : Option Addr) (c : Nat) (l p : List UInt8) : U8M (.slice a (l.length + p.length) c) (l ++ p) = RowM 5 1 (.slice a (l.length + p.length) c) (l.length + p.length) (u8s l ++ u8s p) := by
  unfold U8M
  rw [List.length_append]
  simp [u8s]
set_option maxRecDepth 10000 in
set_option maxHeartbeats 2000000 in
theorem rwnumM_any (r : Hp) (g : Nat) (v : Value) (l : List UInt8) (n : Nat) (hn : n ≤ maxNum) (hl : l.length ≤ 60000000000000) : Tri Tryz.prog r 62 [.pointer (some ⟨g, 0, none⟩), .int .i64 n] [pt g (rwr v false), U8M v l] fun _ H => ∃ v', H = [pt g (rwr v' false), U8M v' (l ++ septs n)] := by
  refine Tri.free2 fun R HR => ?_
  have h6 := septs_len6 hn
  unfold maxNum at hn
  refine fn_of_sw Tryz.func62 rfl _ rfl ?_; refine aen Tryz.ntmps62 ?_
  repeat' (first | refine aw0m ?_ | (refine ap2 ?_ ?_ <;> try intro h) | refine aw1m ?_ | (refine abx ?_; intro bb) | (refine abz ?_; intro bz) | (refine ahv ?_; intro v' hv') | (refine aac ?_; intro ac cc) | refine aw2 ?_ | (refine ap4 ?_ ?_ <;> try intro h) | apply True.intro)
  refine sw_loop (fun gm t H' => ∃ (m : Nat) (p : List UInt8) (w : Value), gm = m + 1 ∧ (m ≤ 1099511627776) ∧ (septs n = p ++ septs m) ∧ (∃ G, Takes [pt g (rwr w false), U8M w (l ++ p)] H' G) ∧ Sls t 41 [(0, .pointer (some ⟨g, 0, none⟩)), (1, .int .i64 m)]) _ ⟨n, [], v, rfl, hn, rfl, ⟨[], by rw [List.append_nil]; (exact atks)⟩, asls⟩ ?_
  rintro gm t H' ⟨m, p, w, rfl, hm, hp1, ⟨G, hp⟩, hs'⟩
  revert t; refine sls_all ?_; iterate 39 intro uu'
  refine sw_takeG hp ?_; clear hp
  have h7 : (l ++ p).length ≤ 60000000000006 := by
    have := congrArg List.length hp1
    rw [List.length_append] at this ⊢
    omega
  by_cases hlt : m < 128
  · repeat' (first | (first | ((with_reducible apply kx_bs1); exact ty_el; exact ty_inf; rfl; rfl; rfl; intro bz; (refine apk ?_)) | ((with_reducible apply kx_bsN); exact ty_el; exact ty_inf; rfl; rfl; rfl; intro bz; (refine apk ?_))) | ((with_reducible apply kx_lend [(bz, .cells [.int .u8 (m : Nat)].toArray 5 (0, 0))]); (exact atks); intro r' hl'; (with_reducible apply kx_appM (news := [.int .u8 (m : Nat)])); exact ty_el; exact ty_inf; rfl; rfl; rfl; rfl; exact (Sl.lit (n := 1) (Lent.h1 hl') rfl (by simp [maxLen])); (exact atk); rfl; omega; (unfold maxLen; omega); (omega); intro a' c'; (refine apk ?_)) | refine aw0 ?_ | (refine ap2 ?_ ?_ <;> try intro h) | refine aw1 ?_ | (refine abx ?_; intro bb) | (refine abz ?_; intro bz) | (refine ahv ?_; intro v' hv') | (refine aac ?_; intro ac cc) | refine aw2 ?_ | (refine ap4 ?_ ?_ <;> try intro h) | apply True.intro)
    ((with_reducible apply fp_end); exact res_0 rfl)
    exact HR.out _ _ _ [pt g _, RowM 5 1 _ _ _] (by (exact atks)) ⟨_, by rw [hp1, septs_small hlt, ← List.append_assoc, u8m_snoc _ _ (l ++ p) _ _ (by rw [u8_lt (by omega)])]⟩
  · repeat' (first | (first | ((with_reducible apply kx_bs1); exact ty_el; exact ty_inf; rfl; rfl; rfl; intro bz; (refine apk ?_)) | ((with_reducible apply kx_bsN); exact ty_el; exact ty_inf; rfl; rfl; rfl; intro bz; (refine apk ?_))) | ((with_reducible apply kx_lend [(bz, .cells [.int .u8 ((m : Int) % 128 + 128)].toArray 5 (0, 0))]); (exact atks); intro r' hl'; (with_reducible apply kx_appM (news := [.int .u8 ((m : Int) % 128 + 128)])); exact ty_el; exact ty_inf; rfl; rfl; rfl; rfl; exact (Sl.lit (n := 1) (Lent.h1 hl') rfl (by simp [maxLen])); (exact atk); rfl; omega; (unfold maxLen; omega); (omega); intro a' c'; (refine apk ?_)) | refine aw0 ?_ | (refine ap2 ?_ ?_ <;> try intro h) | refine aw1 ?_ | (refine abx ?_; intro bb) | (refine abz ?_; intro bz) | (refine ahv ?_; intro v' hv') | (refine aac ?_; intro ac cc) | refine aw2 ?_ | (refine ap4 ?_ ?_ <;> try intro h) | apply True.intro)
    exact ⟨_, by omega, m / 128, p ++ [UInt8.ofNat (m % 128 + 128)], .slice a' ((l ++ p).length + 1) c', rfl, by omega, by rw [hp1, septs_big hlt]; simp, ⟨_, by rw [← List.append_assoc, u8m_snoc _ _ (l ++ p) _ (↑m % 128 + 128) (by rw [u8_lt (by omega)]; omega)]; (exact atks)⟩, asls⟩
end Go.Proofs.YtkbajhiahpkgiaaGreat
