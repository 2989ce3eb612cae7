
/- mudlarklaw17.one, of, star, text, means: their contracts. -/
import Derived.Test.YtdccjfabdfgomaaGreatDoorOx
namespace Go.Proofs.YtdccjfabdfgomaaGreatDoor
open Go.RowKit Go.Maps Sx

def oneS (b : UInt8) (q : Nat) : Nat := if b.toNat / 64 = q then 2 ^ (b.toNat % 64) else 0
def oneV (b : UInt8) : NoV := .mk 3 (oneS b 0) (oneS b 1) (oneS b 2) (oneS b 3) (.slice none 0 0) [] 0 0 false 0
theorem oneV_key (b : UInt8) : (oneV b).key = oneN b := by
  unfold oneV oneN
  rw [nkey_mk]; rfl
theorem oneS_lt (b : UInt8) (q : Nat) : oneS b q < 2 ^ 64 := by
  unfold oneS
  split
  · exact Nat.pow_lt_pow_right (by omega) (Nat.mod_lt _ (by omega))
  · omega
theorem els_nilN (r : Hp) : Els r 10 encN (.slice none 0 0) ([] : List NoV) := ⟨encN_len, rfl, Nat.zero_le _, .inl ⟨⟨none, rfl⟩, rfl⟩⟩
theorem oneV_read (r : Hp) (b : UInt8) : NoR r (oneV b) := by
  unfold oneV
  simp only [NoR, NoL]
  exact ⟨els_nilN r, trivial, by unfold KindR; omega, oneS_lt _ _, oneS_lt _ _, oneS_lt _ _, oneS_lt _ _, rfl⟩
theorem shl_ok (b : UInt8) : IntKind.u64.wrap (1 * 2 ^ (((b.toNat : Nat) : Int) % 64).toNat) = ((2 ^ (b.toNat % 64) : Nat) : Int) := by
  have e : (((b.toNat : Nat) : Int) % 64).toNat = b.toNat % 64 := by omega
  have h : 2 ^ (b.toNat % 64) < 2 ^ 64 := Nat.pow_lt_pow_right (by omega) (Nat.mod_lt _ (by omega))
  rw [e, Int.one_mul]
  have e2 : ((2 : Int) ^ (b.toNat % 64)) = ((2 ^ (b.toNat % 64) : Nat) : Int) := by simp
  rw [e2]
  obtain ⟨n, hn⟩ : ∃ n, 2 ^ (b.toNat % 64) = n := ⟨_, rfl⟩
  rw [hn] at h ⊢
  simp only [IntKind.wrap, IntKind.signed, IntKind.bits]
  simp
  omega
set_option maxRecDepth 10000 in
set_option maxHeartbeats 4000000 in
theorem one_any (r : Hp) (b : UInt8) : Tri Tryz.prog r 10 [.int .u8 b.toNat] [] fun w H => w = .agg (encN (oneV b)).toArray ∧ H = [] := by
  have hb := b.toNat_lt
  have hsh := shl_ok b
  have hen : encN (oneV b) = [.int .i64 3, .int .u64 (oneS b 0), .int .u64 (oneS b 1), .int .u64 (oneS b 2), .int .u64 (oneS b 3), .slice none 0 0, .int .i64 0, .int .i64 0, .bool false, .int .i64 0] := rfl
  rw [hen]
  refine Tri.free2 fun R HR => ?_
  have hq : b.toNat / 64 = 0 ∨ b.toNat / 64 = 1 ∨ b.toNat / 64 = 2 ∨ b.toNat / 64 = 3 := by omega
  rcases hq with hq | hq | hq | hq
  · simp only [oneS, hq] at HR
    refine fn_of_sw Tryz.func10 rfl _ rfl ?_; refine aen Tryz.ntmps10 ?_
    repeat' (first | (rw [hsh]) | ((with_reducible apply kx_alloc (E := 37)); exact ty_zero; (exact qcl); intro b2; (refine apk ?_)) | ((with_reducible apply kx_alloc (E := 34)); exact ty_zero; (exact qcl); intro b3; (refine apk ?_)) | ((with_reducible apply swo_pur); (with_reducible apply pu_ixArr (q := 0)); exact Tryz.underlying34; exact ty_size; rfl; rfl; omega; (omega); (refine apk ?_)) | (exfalso; first | contradiction | omega) | refine aw0 ?_ | (refine ap2 ?_ ?_ <;> try intro h) | refine aw1 ?_ | (refine abx ?_; intro bb) | (refine abz ?_; intro bz) | (refine ahv ?_; intro v' hv') | (refine aac ?_; intro ac cc) | refine aw2 ?_ | (refine ap4 ?_ ?_ <;> try intro h) | apply True.intro)
    ((with_reducible apply fp_ret); exact res_W rfl rfl (by (exact atk)) ty_agg ty_size rfl)
    exact HR.out _ _ _ [] (by (exact atks)) ⟨rfl, rfl⟩
  · simp only [oneS, hq] at HR
    refine fn_of_sw Tryz.func10 rfl _ rfl ?_; refine aen Tryz.ntmps10 ?_
    repeat' (first | (rw [hsh]) | ((with_reducible apply kx_alloc (E := 37)); exact ty_zero; (exact qcl); intro b2; (refine apk ?_)) | ((with_reducible apply kx_alloc (E := 34)); exact ty_zero; (exact qcl); intro b3; (refine apk ?_)) | ((with_reducible apply swo_pur); (with_reducible apply pu_ixArr (q := 1)); exact Tryz.underlying34; exact ty_size; rfl; rfl; omega; (omega); (refine apk ?_)) | (exfalso; first | contradiction | omega) | refine aw0 ?_ | (refine ap2 ?_ ?_ <;> try intro h) | refine aw1 ?_ | (refine abx ?_; intro bb) | (refine abz ?_; intro bz) | (refine ahv ?_; intro v' hv') | (refine aac ?_; intro ac cc) | refine aw2 ?_ | (refine ap4 ?_ ?_ <;> try intro h) | apply True.intro)
    ((with_reducible apply fp_ret); exact res_W rfl rfl (by (exact atk)) ty_agg ty_size rfl)
    exact HR.out _ _ _ [] (by (exact atks)) ⟨rfl, rfl⟩
  · simp only [oneS, hq] at HR
    refine fn_of_sw Tryz.func10 rfl _ rfl ?_; refine aen Tryz.ntmps10 ?_
    repeat' (first | (rw [hsh]) | ((with_reducible apply kx_alloc (E := 37)); exact ty_zero; (exact qcl); intro b2; (refine apk ?_)) | ((with_reducible apply kx_alloc (E := 34)); exact ty_zero; (exact qcl); intro b3; (refine apk ?_)) | ((with_reducible apply swo_pur); (with_reducible apply pu_ixArr (q := 2)); exact Tryz.underlying34; exact ty_size; rfl; rfl; omega; (omega); (refine apk ?_)) | (exfalso; first | contradiction | omega) | refine aw0 ?_ | (refine ap2 ?_ ?_ <;> try intro h) | refine aw1 ?_ | (refine abx ?_; intro bb) | (refine abz ?_; intro bz) | (refine ahv ?_; intro v' hv') | (refine aac ?_; intro ac cc) | refine aw2 ?_ | (refine ap4 ?_ ?_ <;> try intro h) | apply True.intro)
    ((with_reducible apply fp_ret); exact res_W rfl rfl (by (exact atk)) ty_agg ty_size rfl)
    exact HR.out _ _ _ [] (by (exact atks)) ⟨rfl, rfl⟩
  · simp only [oneS, hq] at HR
    refine fn_of_sw Tryz.func10 rfl _ rfl ?_; refine aen Tryz.ntmps10 ?_
    repeat' (first | (rw [hsh]) | ((with_reducible apply kx_alloc (E := 37)); exact ty_zero; (exact qcl); intro b2; (refine apk ?_)) | ((with_reducible apply kx_alloc (E := 34)); exact ty_zero; (exact qcl); intro b3; (refine apk ?_)) | ((with_reducible apply swo_pur); (with_reducible apply pu_ixArr (q := 3)); exact Tryz.underlying34; exact ty_size; rfl; rfl; omega; (omega); (refine apk ?_)) | (exfalso; first | contradiction | omega) | refine aw0 ?_ | (refine ap2 ?_ ?_ <;> try intro h) | refine aw1 ?_ | (refine abx ?_; intro bb) | (refine abz ?_; intro bz) | (refine ahv ?_; intro v' hv') | (refine aac ?_; intro ac cc) | refine aw2 ?_ | (refine ap4 ?_ ?_ <;> try intro h) | apply True.intro)
    ((with_reducible apply fp_ret); exact res_W rfl rfl (by (exact atk)) ty_agg ty_size rfl)
    exact HR.out _ _ _ [] (by (exact atks)) ⟨rfl, rfl⟩
set_option maxRecDepth 10000 in
set_option maxHeartbeats 2000000 in
theorem nodeOf_any (r : Hp) (k : Int) (a : Option Addr) (n c : Nat) : Tri Tryz.prog r 11 [.int .i64 k, .slice a n c] [] fun w H => w = .agg [.int .i64 k, .int .u64 0, .int .u64 0, .int .u64 0, .int .u64 0, .slice a n c, .int .i64 0, .int .i64 0, .bool false, .int .i64 0].toArray ∧ H = [] := by
  refine Tri.free2 fun R HR => ?_
  refine fn_of_sw Tryz.func11 rfl _ rfl ?_; refine aen Tryz.ntmps11 ?_
  repeat' (first | ((with_reducible apply kx_alloc (E := 37)); exact ty_zero; (exact qcl); intro b2; (refine apk ?_)) | (exfalso; first | contradiction | omega) | refine aw0 ?_ | (refine ap2 ?_ ?_ <;> try intro h) | refine aw1 ?_ | (refine abx ?_; intro bb) | (refine abz ?_; intro bz) | (refine ahv ?_; intro v' hv') | (refine aac ?_; intro ac cc) | refine aw2 ?_ | (refine ap4 ?_ ?_ <;> try intro h) | apply True.intro)
  ((with_reducible apply fp_ret); exact res_W rfl rfl (by (exact atk)) ty_agg ty_size rfl)
  exact HR.out _ _ _ [] (by (exact atks)) ⟨rfl, rfl⟩
def textV (a : Option Addr) (c : Nat) (s : Tx) : NoV := .mk 4 0 0 0 0 (.slice a s.length c) (s.map oneV) 0 0 false 0
theorem textV_key (a : Option Addr) (c : Nat) (s : Tx) : (textV a c s).key = textN s := by
  unfold textV textN
  rw [nkey_mk, List.map_map, show NoV.key ∘ oneV = oneN from funext oneV_key]
abbrev KidC (a : Option Addr) (c : Nat) (s : Tx) : Ch := RowC 37 10 (.slice a s.length c) s.length ((s.map oneV).flatMap encN)
theorem kid_snoc {a : Option Addr} {c : Nat} {Y : Tx} {x : UInt8} : KidC a c (Y ++ [x]) = RowC 37 10 (.slice a (Y.length + 1) c) (Y.length + 1) ((Y.map oneV).flatMap encN ++ [.int .i64 3, .int .u64 (oneS x 0), .int .u64 (oneS x 1), .int .u64 (oneS x 2), .int .u64 (oneS x 3), .slice none 0 0, .int .i64 0, .int .i64 0, .bool false, .int .i64 0]) := by
  unfold KidC
  rw [List.length_append, List.length_singleton, List.map_append, List.flatMap_append]; rfl
theorem textV_read {r g : Hp} {a : Option Addr} {c : Nat} {s : Tx} (h : KidC a c s g) (hs : sub g r) : NoR r (textV a c s) := by
  unfold textV
  simp only [NoR, noL_iff]
  refine ⟨⟨encN_len, by rw [List.length_map]; exact h.sl hs⟩, fun x hx => ?_, by unfold KindR; omega, by omega, by omega, by omega, by omega, rfl⟩
  obtain ⟨b, _, rfl⟩ := List.mem_map.1 hx
  exact oneV_read r b
set_option maxRecDepth 10000 in
set_option maxHeartbeats 4000000 in
theorem text17_any (r : Hp) (s : Tx) (hs : s.length ≤ 1000000) : Tri Tryz.prog r 6 [.string (bs s)] [] fun w H => ∃ a c, w = .agg [.int .i64 4, .int .u64 0, .int .u64 0, .int .u64 0, .int .u64 0, .slice a s.length c, .int .i64 0, .int .i64 0, .bool false, .int .i64 0].toArray ∧ H = [KidC a c s] := by
  have hof := nodeOf_any r 4 none 0 0
  have hone := fun r' b => one_any r' b
  refine Tri.free2 fun R HR => ?_
  refine fn_of_sw Tryz.func6 rfl _ rfl ?_; refine aen Tryz.ntmps6 ?_
  repeat' (first | ((with_reducible apply kx_alloc (E := 37)); exact ty_zero; (exact qcl); intro b2; (refine apk ?_)) | (exfalso; first | contradiction | omega) | refine aw0 ?_ | (refine ap2 ?_ ?_ <;> try intro h) | refine aw1 ?_ | (refine abx ?_; intro bb) | (refine abz ?_; intro bz) | (refine ahv ?_; intro v' hv') | (refine aac ?_; intro ac cc) | refine aw2 ?_ | (refine ap4 ?_ ?_ <;> try intro h) | apply True.intro)
  repeat' (first | (refine acl Tryz.func11 ?_; refine acr (hof) ?_; rintro v' H' ⟨rfl, rfl⟩; all_goals refine apl ?_) | ((with_reducible apply kx_alloc (E := 37)); exact ty_zero; (exact qcl); intro b3; (refine apk ?_)) | (exfalso; first | contradiction | omega) | refine aw0 ?_ | (refine ap2 ?_ ?_ <;> try intro h) | refine aw1 ?_ | (refine abx ?_; intro bb) | (refine abz ?_; intro bz) | (refine ahv ?_; intro v' hv') | (refine aac ?_; intro ac cc) | refine aw2 ?_ | (refine ap4 ?_ ?_ <;> try intro h) | apply True.intro)
  refine sw_put (A := KidC none 0 []) (RowC.nil _ _) ?_
  refine sw_loop (fun gm t H' => ∃ (k : Nat) (a : Option Addr) (c : Nat), gm = s.length + 1 - k ∧ (k ≤ s.length) ∧ (∃ G, Takes [pt b2 (.cells [.int .i64 0, .int .u64 0, .int .u64 0, .int .u64 0, .int .u64 0, .slice none 0 0, .int .i64 0, .int .i64 0, .bool false, .int .i64 0].toArray 37 (0, 0)), pt b3 (.cells [.int .i64 4, .int .u64 0, .int .u64 0, .int .u64 0, .int .u64 0, .slice a (s.take k).length c, .int .i64 0, .int .i64 0, .bool false, .int .i64 0].toArray 37 (0, 0)), KidC a c (s.take k)] H' G) ∧ Sls t 22 [(0, .string (bs s)), (2, .pointer (some ⟨b2, 0, none⟩)), (3, .pointer (some ⟨b3, 0, none⟩)), (4, .int .i64 k)]) _ ⟨0, none, 0, rfl, Nat.zero_le _, ⟨_, atks⟩, asls⟩ ?_
  rintro gm t H' ⟨k, a, c, rfl, hk, ⟨G, hp⟩, hs'⟩
  revert t; refine sls_all ?_; iterate 18 intro uu'
  refine sw_takeG hp ?_; clear hp
  by_cases hlt : k < s.length
  · have htk : s.take (k + 1) = s.take k ++ [s.getD k 0] := by rw [take_getD (d := 0) hlt]
    obtain ⟨x, hx⟩ : ∃ x, s.getD k 0 = x := ⟨_, rfl⟩
    have hox := fun r' => hone r' x
    have hse : encN (oneV x) = [.int .i64 3, .int .u64 (oneS x 0), .int .u64 (oneS x 1), .int .u64 (oneS x 2), .int .u64 (oneS x 3), .slice none 0 0, .int .i64 0, .int .i64 0, .bool false, .int .i64 0] := rfl
    rw [hse] at hox
    rw [hx] at htk
    have htl : (s.take k).length ≤ s.length := by rw [List.length_take]; omega
    obtain ⟨Y, hY⟩ : ∃ Y, s.take k = Y := ⟨_, rfl⟩
    rw [hY] at htk htl
    rw [hY]
    repeat' (first | (rw [hx]) | ((with_reducible apply sw_draw (id := 5) 8 [(0, true), (1, true), (2, true), (3, true), (4, true), (5, false), (6, false), (7, false)] [(8, false), (9, false)] [(b3, .cells [.int .i64 4, .int .u64 0, .int .u64 0, .int .u64 0, .int .u64 0, .slice a Y.length c, .int .i64 0, .int .i64 0, .bool false, .int .i64 0].toArray 37 (0, 0))]); kernel_rfl; (exact atks); kernel_rfl; intro r' hl') | (first | ((with_reducible apply kx_bs1); exact ty_el; exact ty_inf; rfl; rfl; rfl; intro bz; (refine apk ?_)) | ((with_reducible apply kx_bsN); exact ty_el; exact ty_inf; rfl; rfl; rfl; intro bz; (refine apk ?_))) | (first | ((with_reducible apply kx_append1); exact ty_el; exact ty_inf; rfl; rfl; rfl; (exact atk); (exact atk); rfl; omega; intro a' c'; (refine apk ?_)) | ((with_reducible apply kx_appendN); exact ty_el; exact ty_inf; rfl; rfl; rfl; rfl; (exact atk); (exact atk); rfl; rfl; omega; intro a' c'; (refine apk ?_))) | (refine acl Tryz.func10 ?_; refine acr (hox _) ?_; rintro v' H' ⟨rfl, rfl⟩; all_goals refine apl ?_) | (exfalso; first | contradiction | omega) | refine aw0 ?_ | (refine ap2 ?_ ?_ <;> try intro h) | refine aw1 ?_ | (refine abx ?_; intro bb) | (refine abz ?_; intro bz) | (refine ahv ?_; intro v' hv') | (refine aac ?_; intro ac cc) | refine aw2 ?_ | (refine ap4 ?_ ?_ <;> try intro h) | apply True.intro)
    have hln2 : (s.take (k + 1)).length = Y.length + 1 := by rw [htk, List.length_append]; rfl
    exact ⟨_, by omega, k + 1, a', c', rfl, by omega, ⟨_, by rw [htk, kid_snoc, List.length_append, List.length_singleton]; exact atks⟩, asls⟩
  · obtain rfl : k = s.length := by omega
    rw [List.take_length]
    repeat' (first | (exfalso; first | contradiction | omega) | refine aw0 ?_ | (refine ap2 ?_ ?_ <;> try intro h) | refine aw1 ?_ | (refine abx ?_; intro bb) | (refine abz ?_; intro bz) | (refine ahv ?_; intro v' hv') | (refine aac ?_; intro ac cc) | refine aw2 ?_ | (refine ap4 ?_ ?_ <;> try intro h) | apply True.intro)
    ((with_reducible apply fp_ret); exact res_W rfl rfl (by (exact atk)) ty_agg ty_size rfl)
    exact HR.out _ _ _ [KidC a c s] (by (exact atks)) ⟨a, c, rfl, rfl⟩
set_option maxRecDepth 10000 in
set_option maxHeartbeats 2000000 in
theorem star_any (r : Hp) (k : Int) (s0 s1 s2 s3 : Nat) (a : Option Addr) (n c : Nat) (mn mx : Int) (lz : Bool) (gr : Int) : Tri Tryz.prog r 12 [.agg [.int .i64 k, .int .u64 s0, .int .u64 s1, .int .u64 s2, .int .u64 s3, .slice a n c, .int .i64 mn, .int .i64 mx, .bool lz, .int .i64 gr].toArray] [] fun w H => ∃ b, w = .agg [.int .i64 6, .int .u64 0, .int .u64 0, .int .u64 0, .int .u64 0, .slice (some ⟨b, 0, none⟩) 1 1, .int .i64 0, .int .i64 (-1), .bool false, .int .i64 0].toArray ∧ H = [pt b (.cells [.int .i64 k, .int .u64 s0, .int .u64 s1, .int .u64 s2, .int .u64 s3, .slice a n c, .int .i64 mn, .int .i64 mx, .bool lz, .int .i64 gr].toArray 37 (0, 0))] := by
  refine Tri.free2 fun R HR => ?_
  refine fn_of_sw Tryz.func12 rfl _ rfl ?_; refine aen Tryz.ntmps12 ?_
  repeat' (first | ((with_reducible apply kx_box); rfl; (exact qcl); intro b1; (refine apk ?_)) | ((with_reducible apply kx_alloc (E := 37)); exact ty_zero; (exact qcl); intro b2; (refine apk ?_)) | (first | ((with_reducible apply kx_bs1); exact ty_el; exact ty_inf; rfl; rfl; rfl; intro bz; (refine apk ?_)) | ((with_reducible apply kx_bsN); exact ty_el; exact ty_inf; rfl; rfl; rfl; intro bz; (refine apk ?_))) | (exfalso; first | contradiction | omega) | refine aw0 ?_ | (refine ap2 ?_ ?_ <;> try intro h) | refine aw1 ?_ | (refine abx ?_; intro bb) | (refine abz ?_; intro bz) | (refine ahv ?_; intro v' hv') | (refine aac ?_; intro ac cc) | refine aw2 ?_ | (refine ap4 ?_ ?_ <;> try intro h) | apply True.intro)
  ((with_reducible apply fp_ret); exact res_W rfl rfl (by (exact atk)) ty_agg ty_size rfl)
  exact HR.out _ _ _ [pt bz (.cells [.int .i64 k, .int .u64 s0, .int .u64 s1, .int .u64 s2, .int .u64 s3, .slice a n c, .int .i64 mn, .int .i64 mx, .bool lz, .int .i64 gr].toArray 37 (0, 0))] (by (exact atks)) ⟨bz, rfl, rfl⟩
set_option maxRecDepth 10000 in
set_option maxHeartbeats 2000000 in
theorem means17_any (r : Hp) (hT : TabR r) (q : QuV) (hq : QuR r q) (s : Tx) (hz : sizeQ q.key ≤ 9000000) (ht : textQ q.key = s) : Tri Tryz.prog r 13 [.agg [.int .i64 q.kind, q.gv, q.sv].toArray, .string (bs s)] [] fun w H => w = .bool true ∧ H = [] := by
  have htx := text_any q hz r hT hq
  rw [ht, show encQ q = [.int .i64 q.kind, q.gv, q.sv] from rfl] at htx
  refine Tri.free2 fun R HR => ?_
  refine fn_of_sw Tryz.func13 rfl _ rfl ?_; refine aen Tryz.ntmps13 ?_
  repeat' (first | ((with_reducible apply kx_box); rfl; (exact qcl); intro b1; (refine apk ?_)) | (refine acl Tryz.func25 ?_; refine acr (htx) ?_; rintro v' H' ⟨rfl, rfl⟩; all_goals refine apl ?_) | (exfalso; first | contradiction | omega) | refine aw0 ?_ | (refine ap2 ?_ ?_ <;> try intro h) | refine aw1 ?_ | (refine abx ?_; intro bb) | (refine abz ?_; intro bz) | (refine ahv ?_; intro v' hv') | (refine aac ?_; intro ac cc) | refine aw2 ?_ | (refine ap4 ?_ ?_ <;> try intro h) | apply True.intro)
  ((with_reducible apply fp_ret); exact res_1 rfl rfl)
  exact HR.out _ _ _ [] (by (exact atks)) ⟨by first | rfl | simp, rfl⟩
end Go.Proofs.YtdccjfabdfgomaaGreatDoor
