
/- mudlarkkit.SameFiles, ApartPlaces: their contracts. -/
import Derived.Test.YtohpeoakdgckfaaGreatLo
import Derived.Test.YtohpeoakdgckfaaGreatWe
import Derived.Test.YtohpeoakdgckfaaGreatCl
import Derived.Test.YtohpeoakdgckfaaGreatGp
import Derived.Test.YtohpeoakdgckfaaGreatShb
namespace Go.Proofs.YtohpeoakdgckfaaGreat
open Go.RowKit Sx

/-- A reference's writer in block g. -/
abbrev rwr (v : Value) (bad : Bool) : Obj := .cells [v, .bool bad].toArray 85 (0, 0)
theorem u8r_snoc (a : Option Addr) (c : Nat) (l : List UInt8) (b : UInt8) (i : Int) (hi : i = (b.toNat : Nat)) : U8R (.slice a (l.length + 1) c) (l ++ [b]) = RowC 5 1 (.slice a (l.length + 1) c) (l.length + 1) (u8s l ++ [.int .u8 i]) := by
  subst hi
  unfold U8R
  rw [List.length_append]
  simp [u8s]
theorem u8r_app (a : Option Addr) (c : Nat) (l p : List UInt8) : U8R (.slice a (l.length + p.length) c) (l ++ p) = RowC 5 1 (.slice a (l.length + p.length) c) (l.length + p.length) (u8s l ++ u8s p) := by
  unfold U8R
  rw [List.length_append]
  simp [u8s]
theorem u8_lt {n : Nat} (h : n < 256) : ((UInt8.ofNat n).toNat : Nat) = n := by simp; omega
set_option maxRecDepth 10000 in
set_option maxHeartbeats 2000000 in
theorem rwnum_any (r : Hp) (g : Nat) (v : Value) (l : List UInt8) (n : Nat) (hn : n ≤ maxNum) (hl : l.length ≤ 60000000000000) : Tri Tryz.prog r 97 [.pointer (some ⟨g, 0, none⟩), .int .i64 n] [pt g (rwr v false), U8R v l] fun _ H => ∃ v', H = [pt g (rwr v' false), U8R v' (l ++ septs n)] := by
  refine Tri.free2 fun R HR => ?_
  have h6 := septs_len6 hn
  unfold maxNum at hn
  refine fn_of_sw Tryz.func97 rfl _ rfl ?_; refine aen Tryz.ntmps97 ?_
  repeat' (first | refine aw0m ?_ | (refine ap2 ?_ ?_ <;> try intro h) | refine aw1m ?_ | (refine abx ?_; intro bb) | (refine abz ?_; intro bz) | (refine ahv ?_; intro v' hv') | (refine aac ?_; intro ac cc) | refine aw2 ?_ | (refine ap4 ?_ ?_ <;> try intro h) | apply True.intro)
  refine sw_loop (fun gm t H' => ∃ (m : Nat) (p : List UInt8) (w : Value), gm = m + 1 ∧ (m ≤ 1099511627776) ∧ (septs n = p ++ septs m) ∧ (∃ G, Takes [pt g (rwr w false), U8R w (l ++ p)] H' G) ∧ Sls t 41 [(0, .pointer (some ⟨g, 0, none⟩)), (1, .int .i64 m)]) _ ⟨n, [], v, rfl, hn, rfl, ⟨[], by rw [List.append_nil]; (exact atks)⟩, asls⟩ ?_
  rintro gm t H' ⟨m, p, w, rfl, hm, hp1, ⟨G, hp⟩, hs'⟩
  revert t; refine sls_all ?_; iterate 39 intro uu'
  refine sw_takeG hp ?_; clear hp
  have h7 : (l ++ p).length ≤ 60000000000006 := by
    have := congrArg List.length hp1
    rw [List.length_append] at this ⊢
    omega
  by_cases hlt : m < 128
  · repeat' (first | (first | ((with_reducible apply kx_bs1); exact ty_el; exact ty_inf; rfl; rfl; rfl; intro bz; (refine apk ?_)) | ((with_reducible apply kx_bsN); exact ty_el; exact ty_inf; rfl; rfl; rfl; intro bz; (refine apk ?_))) | (first | ((with_reducible apply kx_append1); exact ty_el; exact ty_inf; rfl; rfl; rfl; (exact atk); (exact atk); rfl; (omega); intro a' c'; (refine apk ?_)) | ((with_reducible apply kx_appendN); exact ty_el; exact ty_inf; rfl; rfl; rfl; rfl; (exact atk); (exact atk); rfl; rfl; (omega); intro a' c'; (refine apk ?_))) | refine aw0 ?_ | (refine ap2 ?_ ?_ <;> try intro h) | refine aw1 ?_ | (refine abx ?_; intro bb) | (refine abz ?_; intro bz) | (refine ahv ?_; intro v' hv') | (refine aac ?_; intro ac cc) | refine aw2 ?_ | (refine ap4 ?_ ?_ <;> try intro h) | apply True.intro)
    ((with_reducible apply fp_end); exact res_0 rfl)
    exact HR.out _ _ _ [pt g _, RowC 5 1 _ _ _] (by (exact atks)) ⟨_, by rw [hp1, septs_small hlt, ← List.append_assoc, u8r_snoc _ _ (l ++ p) _ _ (by rw [u8_lt (by omega)])]⟩
  · repeat' (first | (first | ((with_reducible apply kx_bs1); exact ty_el; exact ty_inf; rfl; rfl; rfl; intro bz; (refine apk ?_)) | ((with_reducible apply kx_bsN); exact ty_el; exact ty_inf; rfl; rfl; rfl; intro bz; (refine apk ?_))) | (first | ((with_reducible apply kx_append1); exact ty_el; exact ty_inf; rfl; rfl; rfl; (exact atk); (exact atk); rfl; (omega); intro a' c'; (refine apk ?_)) | ((with_reducible apply kx_appendN); exact ty_el; exact ty_inf; rfl; rfl; rfl; rfl; (exact atk); (exact atk); rfl; rfl; (omega); intro a' c'; (refine apk ?_))) | refine aw0 ?_ | (refine ap2 ?_ ?_ <;> try intro h) | refine aw1 ?_ | (refine abx ?_; intro bb) | (refine abz ?_; intro bz) | (refine ahv ?_; intro v' hv') | (refine aac ?_; intro ac cc) | refine aw2 ?_ | (refine ap4 ?_ ?_ <;> try intro h) | apply True.intro)
    exact ⟨_, by omega, m / 128, p ++ [UInt8.ofNat (m % 128 + 128)], .slice a' ((l ++ p).length + 1) c', rfl, by omega, by rw [hp1, septs_big hlt]; simp, ⟨_, by rw [← List.append_assoc, u8r_snoc _ _ (l ++ p) _ (↑m % 128 + 128) (by rw [u8_lt (by omega)]; omega)]; (exact atks)⟩, asls⟩
set_option maxHeartbeats 1000000 in
theorem rwtext_any (r : Hp) (g : Nat) (v : Value) (l : List UInt8) (pv : Value) (p : List UInt8) (hp : U8S r pv p) (hpl : p.length ≤ 1000000) (hl : l.length ≤ 50000000000000) : Tri Tryz.prog r 65 [.pointer (some ⟨g, 0, none⟩), pv] [pt g (rwr v false), U8R v l] fun _ H => ∃ v', H = [pt g (rwr v' false), U8R v' (l ++ texts p)] := by
  refine Tri.free2 fun R HR => ?_
  have h6 := septs_len6 (n := p.length) (by unfold maxNum; omega)
  refine fn_of_sw Tryz.func65 rfl _ rfl ?_; refine aen Tryz.ntmps65 ?_
  repeat' (first | (refine acl Tryz.func97 ?_; refine acr (rwnum_any r g v l p.length (by unfold maxNum; omega) (by omega)) ?_; rintro v' H' ⟨v1, rfl⟩; all_goals refine apl ?_) | ((with_reducible apply kx_appS (news := u8s p)); exact ty_el; exact ty_inf; rfl; rfl; rfl; rfl; exact hp; (exact atk); exact u8s_one p; (unfold maxLen; rw [List.length_append]; omega); (rw [List.length_append]; omega); intro a' c'; (refine apk ?_)) | refine aw0 ?_ | (refine ap2 ?_ ?_ <;> try intro h) | refine aw1 ?_ | (refine abx ?_; intro bb) | (refine abz ?_; intro bz) | (refine ahv ?_; intro v' hv') | (refine aac ?_; intro ac cc) | refine aw2 ?_ | (refine ap4 ?_ ?_ <;> try intro h) | apply True.intro)
  ((with_reducible apply fp_end); exact res_0 rfl)
  exact HR.out _ _ _ [pt g _, RowC 5 1 _ _ _] (by (exact atks)) ⟨_, by unfold texts; rw [← List.append_assoc, u8r_app]⟩
set_option maxHeartbeats 1000000 in
theorem rwfixed_any (r : Hp) (g : Nat) (v : Value) (l : List UInt8) (n : Nat) (_hn : n < 4294967296) (hl : l.length ≤ 50000000000000) : Tri Tryz.prog r 66 [.pointer (some ⟨g, 0, none⟩), .int .u32 n] [pt g (rwr v false), U8R v l] fun _ H => ∃ v', H = [pt g (rwr v' false), U8R v' (l ++ fixed n)] := by
  refine Tri.free2 fun R HR => ?_
  have hfx : ([.int .u8 (IntKind.u8.wrap n), .int .u8 (IntKind.u8.wrap (n / 2 ^ Int.toNat 8)), .int .u8 (IntKind.u8.wrap (n / 2 ^ Int.toNat 16)), .int .u8 (IntKind.u8.wrap (n / 2 ^ Int.toNat 24))] : List Value) = u8s (fixed n) := by
    simp [u8s, fixed, IntKind.wrap, IntKind.bits, IntKind.signed]
  refine fn_of_sw Tryz.func66 rfl _ rfl ?_; refine aen Tryz.ntmps66 ?_
  repeat' (first | ((with_reducible apply kx_lend [(bz, .cells [.int .u8 (IntKind.u8.wrap n), .int .u8 (IntKind.u8.wrap (n / 2 ^ Int.toNat 8)), .int .u8 (IntKind.u8.wrap (n / 2 ^ Int.toNat 16)), .int .u8 (IntKind.u8.wrap (n / 2 ^ Int.toNat 24))].toArray 5 (0, 0))]); (exact atks); intro r' hl'; (with_reducible apply kx_appS (news := [.int .u8 (IntKind.u8.wrap n), .int .u8 (IntKind.u8.wrap (n / 2 ^ Int.toNat 8)), .int .u8 (IntKind.u8.wrap (n / 2 ^ Int.toNat 16)), .int .u8 (IntKind.u8.wrap (n / 2 ^ Int.toNat 24))])); exact ty_el; exact ty_inf; rfl; rfl; rfl; rfl; exact (Sl.lit (n := 4) (Lent.h1 hl') rfl (by simp [maxLen])); (exact atk); rfl; (unfold maxLen; omega); (omega); intro a' c'; (refine apk ?_)) | refine aw0 ?_ | (refine ap2 ?_ ?_ <;> try intro h) | refine aw1 ?_ | (refine abx ?_; intro bb) | (refine abz ?_; intro bz) | (refine ahv ?_; intro v' hv') | (refine aac ?_; intro ac cc) | refine aw2 ?_ | (refine ap4 ?_ ?_ <;> try intro h) | apply True.intro)
  ((with_reducible apply fp_end); exact res_0 rfl)
  exact HR.out _ _ _ [pt g _, RowC 5 1 _ _ _] (by (exact atks)) ⟨_, by rw [hfx]; exact congrArg (fun x => [pt g (rwr _ false), x]) (u8r_app _ _ l (fixed n)).symm⟩
end Go.Proofs.YtohpeoakdgckfaaGreat

namespace Go.Proofs.YtohpeoakdgckfaaGreat
open Go.RowKit
namespace Sx
section
variable {P : Program} {l : Option Nat} {r : Hp} {Q : Exit → St} {t : List Value} {H : List Ch}
end
end Sx
open Sx

end Go.Proofs.YtohpeoakdgckfaaGreat

namespace Go.Proofs.YtohpeoakdgckfaaGreat
open Go.RowKit Sx

theorem key_eqD {fs gs : List FileV} {k : Nat} (ht : (fs.take k).map FileV.key = (gs.take k).map FileV.key) (h1 : k < fs.length) (h2 : k < gs.length) (hp : (fs.getD k default).path = (gs.getD k default).path) (hd : (fs.getD k default).data = (gs.getD k default).data) : (fs.take (k + 1)).map FileV.key = (gs.take (k + 1)).map FileV.key := by
  rw [take_getD (d := default) h1, take_getD (d := default) h2, List.map_append, List.map_append, ht]
  rw [List.map_singleton, List.map_singleton, FileV.key, FileV.key, hp, hd]
theorem key_at {fs gs : List FileV} (h : fs.map FileV.key = gs.map FileV.key) {k : Nat} (h1 : k < fs.length) : (fs.getD k default).path = (gs.getD k default).path ∧ (fs.getD k default).data = (gs.getD k default).data := by
  have hl : fs.length = gs.length := by have := congrArg List.length h; simpa using this
  have e := congrArg (fun l => l[k]?) h
  simp only [List.getElem?_map] at e
  rw [List.getElem?_eq_getElem h1, List.getElem?_eq_getElem (by omega)] at e
  simp only [Option.map_some, Option.some.injEq] at e
  simp only [List.getD_eq_getElem?_getD]
  rw [List.getElem?_eq_getElem h1, List.getElem?_eq_getElem (show k < gs.length by omega)]
  exact ⟨congrArg Prod.fst e, congrArg Prod.snd e⟩
set_option maxRecDepth 10000 in
set_option maxHeartbeats 1000000 in
theorem sameFiles_any (r : Hp) (v w : Value) (fs gs : List FileV) (hv : Files r v fs) (hw : Files r w gs) : Tri Tryz.prog r 23 [v, w] [] fun u H => u = .bool (decide (fs.map FileV.key = gs.map FileV.key)) ∧ H = [] := by
  refine Tri.free2 fun R HR => ?_
  obtain ⟨hv, hb⟩ := hv
  obtain ⟨hw, hc⟩ := hw
  have hlm := maxI hv.2.2.1
  have hkl := fun h : fs.map FileV.key = gs.map FileV.key => (by have := congrArg List.length h; simpa using this : fs.length = gs.length)
  refine fn_of_sw Tryz.func23 rfl _ rfl ?_; refine aen Tryz.ntmps23 ?_
  repeat' (first | refine aw0m ?_ | (refine ap2 ?_ ?_ <;> try intro h) | refine aw1m ?_ | (refine abx ?_; intro bb) | (refine abz ?_; intro bz) | (refine ahv ?_; intro v' hv') | (refine aac ?_; intro ac cc) | refine aw2 ?_ | (refine ap4 ?_ ?_ <;> try intro h) | apply True.intro)
  · ((with_reducible apply fp_ret); exact res_1 rfl rfl)
    exact HR.out _ _ _ [] (by (exact atks)) ⟨by rw [decide_eq_false]; intro e; have := hkl e; omega, rfl⟩
  · refine sw_loop (fun gm t H' => ∃ k : Nat, gm = fs.length + 1 - k ∧ (k ≤ fs.length) ∧ ((fs.take k).map FileV.key = (gs.take k).map FileV.key) ∧ (∃ G, Takes [] H' G) ∧ Sls t 27 [(0, v), (1, w), (5, .int .i64 k)]) _ ⟨0, rfl, Nat.zero_le _, by simp, ⟨[], atks⟩, asls⟩ ?_
    rintro gm t H' ⟨k, rfl, hk, ht, ⟨G, hp⟩, hs'⟩
    revert t; refine sls_all ?_; iterate 24 intro uu'
    refine sw_takeG hp ?_; clear hp
    by_cases hlt : k < fs.length
    · have hb1 := hb (fs.getD k default) (getD_mem hlt)
      have hc1 := hc (gs.getD k default) (getD_mem (by omega))
      repeat' (first | refine aw0m ?_ | (refine ap2 ?_ ?_ <;> try intro h) | (first | ((with_reducible apply sw_draw (id := 6) 10 [(0, true), (1, true), (2, true), (3, true), (4, true), (5, true), (6, true), (7, true), (8, false), (9, true)] [] []); kernel_rfl; (exact atks); kernel_rfl; intro r' hl')) | (refine acl Tryz.func48 ?_; refine acr (sameFile_any _ _ _ (hb1.mono hl'.1) (hc1.mono hl'.1)) ?_; rintro v' H' ⟨rfl, rfl⟩; all_goals refine apl ?_) | (refine acl Tryz.func48 ?_; refine acr (sameFile_any _ _ _ hb1 hc1) ?_; rintro v' H' ⟨rfl, rfl⟩; all_goals refine apl ?_) | refine aw1m ?_ | (refine abx ?_; intro bb) | (refine abz ?_; intro bz) | (refine ahv ?_; intro v' hv') | (refine aac ?_; intro ac cc) | refine aw2 ?_ | (refine ap4 ?_ ?_ <;> try intro h) | apply True.intro)
      all_goals first
        | (exact ⟨_, by omega, k + 1, rfl, by omega, key_eqD ht hlt (by omega) h.1 h.2, ⟨_, atks⟩, asls⟩)
        | (((with_reducible apply fp_ret); exact res_1 rfl rfl)
           exact HR.out _ _ _ [] (by (exact atks)) ⟨by rw [decide_eq_false]; intro e; have h3 := key_at e hlt; rcases h with h | h; exact h h3.1; exact h h3.2, rfl⟩)
    · repeat' (first | refine aw0m ?_ | (refine ap2 ?_ ?_ <;> try intro h) | (exfalso; first | contradiction | omega) | refine aw1m ?_ | (refine abx ?_; intro bb) | (refine abz ?_; intro bz) | (refine ahv ?_; intro v' hv') | (refine aac ?_; intro ac cc) | refine aw2 ?_ | (refine ap4 ?_ ?_ <;> try intro h) | apply True.intro)
      ((with_reducible apply fp_ret); exact res_1 rfl rfl)
      exact HR.out _ _ _ [] (by (exact atks)) ⟨by rw [decide_eq_true]; rwa [List.take_of_length_le (by omega), List.take_of_length_le (by omega)] at ht, rfl⟩
end Go.Proofs.YtohpeoakdgckfaaGreat
