
/- strconv.FormatInt of a byte and 256, base 16. -/
import Derived.Test.YtdccjfabdfgomaaGreatDoorUd
import Derived.Test.YtdccjfabdfgomaaGreatDoorEp
namespace Go.Proofs.YtdccjfabdfgomaaGreatDoor
open Go.RowKit
namespace Sx
section
variable {P : Program} {l : Option Nat} {r : Hp} {Q : Exit → St} {K : St} {t : List Value} {H : List Ch} {d : Option Tmp} {ty : TypeId} {pos : String} {af : Array Edge} {gd : Option (Nat × Bool)} {v : Value}
/-- The address of an array's element. -/
theorem pu_ixA {T E : TypeId} {m sz : Nat} {x y : Operand} {k : IntKind} {i : Int} {a : Addr} (a' : Addr) (hu : P.underlying T = some (.array m E)) (hs : sizeB P E = some sz) (hx : evO t x = some (.pointer (some a))) (hy : evO t y = some (.int k i)) (h0 : 0 ≤ i ∧ i < m) (ha : a.add (i.toNat * sz) = a') :
    Pur P r t ⟨d, .indexAddr T x y, ty, pos, af, gd⟩ (.pointer (some a')) :=
  ⟨rfl, fun w _ => by subst ha; simp [execOp, Instr.indexAt, Instr.sureAddr, asIntOf, ev_of hx, ev_of hy, Sem.run_bind, Result.andThen, run_underlying hu, run_sizeOf hs, h0.1, h0.2]⟩
/-- The end of an array, as a slice. -/
theorem pu_slA {T E : TypeId} {m sz : Nat} {x y : Operand} {i : Nat} {b : Nat} (hu : P.underlying T = some (.array m E)) (hs : sizeB P E = some sz) (hx : evO t x = some (.pointer (some ⟨b, 0, none⟩))) (hy : evO t y = some (.int .i64 (i : Int))) (h0 : i < m) :
    Pur P r t ⟨d, .slice T x (some y) none none, ty, pos, af, gd⟩ (.slice (some ⟨b, i * sz, none⟩) (m - i) (m - i)) :=
  ⟨rfl, fun w _ => by
    have h1 : ¬ m = i := by omega
    have h2 : (0 : Int) ≤ i ∧ (i : Int) ≤ m := by omega
    simp [execOp, Instr.sliceAt, Instr.sureAddr, Instr.sliceBounds, Instr.sliceBound, asIntOf, ev_of hx, ev_of hy, Sem.run_bind, Result.andThen, run_underlying hu, run_sizeOf hs, h1, h2, Addr.add, Nat.le_of_lt h0]
    intro h; omega⟩
end
end Sx
open Sx
/-- The table that bits.TrailingZeros64 looks into: what is asked of it here. -/
def TabR (r : Hp) : Prop := ∃ c E fz, r 3 = some (.cells c E fz) ∧ c[15]? = some (.int .u8 4)
theorem TabR.mono {r r' : Hp} (h : TabR r) (hr : sub r r') : TabR r' := by
  obtain ⟨c, E, fz, h1, h2⟩ := h
  exact ⟨c, E, fz, hr _ _ h1, h2⟩
set_option maxRecDepth 10000 in
set_option maxHeartbeats 2000000 in
theorem pow2_any (r : Hp) : Tri Tryz.prog r 132 [.int .i64 16] [] fun w H => w = .bool true ∧ H = [] := by
  refine Tri.free2 fun R HR => ?_
  refine fn_of_sw Tryz.func132 rfl _ rfl ?_; refine aen Tryz.ntmps132 ?_
  repeat' (first | ((with_reducible refine swo_kit ?_ ?_); rfl; intro w ds K' hK; gi_big_op; (with_reducible refine hK _ ?_); clear hK K' ds w) | (exfalso; first | contradiction | omega) | refine aw0 ?_ | (refine ap2 ?_ ?_ <;> try intro h) | refine aw1 ?_ | (refine abx ?_; intro bb) | (refine abz ?_; intro bz) | (refine ahv ?_; intro v' hv') | (refine aac ?_; intro ac cc) | refine aw2 ?_ | (refine ap4 ?_ ?_ <;> try intro h) | apply True.intro)
  ((with_reducible apply fp_ret); exact res_1 rfl rfl)
  exact HR.out _ _ _ [] Takes.all ⟨congrArg Value.bool (by decide +kernel), rfl⟩
theorem deB : (IntKind.u64.wrap (bits BinOp.and IntKind.u64 16 (IntKind.u64.wrap (-16)) * 285870213051353865) / 288230376151711744) = 15 := by decide +kernel
set_option maxRecDepth 10000 in
set_option maxHeartbeats 2000000 in
theorem tz64_any (r : Hp) (hT : TabR r) : Tri Tryz.prog r 137 [.int .u64 16] [] fun w H => w = .int .i64 4 ∧ H = [] := by
  obtain ⟨c, E, fz, h1, h2⟩ := hT
  refine Tri.free2 fun R HR => ?_
  refine fn_of_sw Tryz.func137 rfl _ rfl ?_; refine aen Tryz.ntmps137 ?_
  repeat' (first | ((with_reducible refine swo_kit ?_ ?_); rfl; intro w ds K' hK; gi_big_op; (with_reducible refine hK _ ?_); clear hK K' ds w) | (rw [deB]) | ((with_reducible apply swo_pur); (with_reducible apply pu_ixA ⟨3, 15, none⟩ (T := 183) (sz := 1)); exact Tryz.underlying183; exact ty_size; rfl; rfl; omega; rfl; (refine apk ?_)) | ((with_reducible apply kx_load); exact ty_agg; rfl; exact rd_r h1 h2; (refine apk ?_)) | (exfalso; first | contradiction | omega) | refine aw0 ?_ | (refine ap2 ?_ ?_ <;> try intro h) | refine aw1 ?_ | (refine abx ?_; intro bb) | (refine abz ?_; intro bz) | (refine ahv ?_; intro v' hv') | (refine aac ?_; intro ac cc) | refine aw2 ?_ | (refine ap4 ?_ ?_ <;> try intro h) | apply True.intro)
  ((with_reducible apply fp_ret); exact res_1 rfl rfl)
  exact HR.out _ _ _ [] Takes.all ⟨rfl, rfl⟩
set_option maxRecDepth 10000 in
set_option maxHeartbeats 2000000 in
theorem tz_any (r : Hp) (hT : TabR r) : Tri Tryz.prog r 133 [.int .u64 16] [] fun w H => w = .int .i64 4 ∧ H = [] := by
  refine Tri.free2 fun R HR => ?_
  have h := tz64_any r hT
  refine fn_of_sw Tryz.func133 rfl _ rfl ?_; refine aen Tryz.ntmps133 ?_
  repeat' (first | (refine acl Tryz.func137 ?_; refine acr (h) ?_; rintro v' H' ⟨rfl, rfl⟩; all_goals refine apl ?_) | (exfalso; first | contradiction | omega) | refine aw0 ?_ | (refine ap2 ?_ ?_ <;> try intro h) | refine aw1 ?_ | (refine abx ?_; intro bb) | (refine abz ?_; intro bz) | (refine ahv ?_; intro v' hv') | (refine aac ?_; intro ac cc) | refine aw2 ?_ | (refine ap4 ?_ ?_ <;> try intro h) | apply True.intro)
  ((with_reducible apply fp_ret); exact res_1 rfl rfl)
  exact HR.out _ _ _ [] Takes.all ⟨rfl, rfl⟩
theorem and15 : ∀ c < 256, bits BinOp.and IntKind.u64 ((c : Nat) + 256 : Int) 15 = ((c % 16 : Nat) : Int) := by decide +kernel
theorem and15b : ∀ c < 256, bits BinOp.and IntKind.u64 (((c : Nat) + 256 : Int) / 16) 15 = ((c / 16 : Nat) : Int) := by decide +kernel
def digs : List UInt8 := [48, 49, 50, 51, 52, 53, 54, 55, 56, 57, 97, 98, 99, 100, 101, 102, 103, 104, 105, 106, 107, 108, 109, 110, 111, 112, 113, 114, 115, 116, 117, 118, 119, 120, 121, 122]
theorem and15' {c : Nat} (h : c < 256) : bitI BinOp.and IntKind.u64 ((c : Nat) + 256 : Int) 15 = ((c % 16 : Nat) : Int) := (show bitI _ _ _ _ = bits _ _ _ _ by unfold bitI; rfl).trans (and15 c h)
theorem and15b' {c : Nat} (h : c < 256) : bitI BinOp.and IntKind.u64 (((c : Nat) + 256 : Int) / 16) 15 = ((c / 16 : Nat) : Int) := (show bitI _ _ _ _ = bits _ _ _ _ by unfold bitI; rfl).trans (and15b c h)
theorem digs_get : ∀ n < 16, digs.getD n 0 = hexD n := by decide
def fbA0 : Array Value := Array.replicate 65 (.int .u8 0)
def fbA1 (c : Nat) : Array Value := fbA0.setIfInBounds 64 (.int .u8 ((hexD (c % 16)).toNat : Nat))
def fbA2 (c : Nat) : Array Value := (fbA1 c).setIfInBounds 63 (.int .u8 ((hexD (c / 16)).toNat : Nat))
def fbA3 (c : Nat) : Array Value := (fbA2 c).setIfInBounds 62 (.int .u8 (49 : Nat))
theorem fb_size0 : fbA0.size = 65 := by simp [fbA0]
theorem fb_size1 (c : Nat) : (fbA1 c).size = 65 := by simp [fbA1, fb_size0]
theorem fb_size2 (c : Nat) : (fbA2 c).size = 65 := by simp [fbA2, fb_size1]
theorem fb_last (c : Nat) : (fbA3 c)[62]? = some (.int .u8 (49 : Nat)) ∧ (fbA3 c)[63]? = some (.int .u8 ((hexD (c / 16)).toNat : Nat)) ∧ (fbA3 c)[64]? = some (.int .u8 ((hexD (c % 16)).toNat : Nat)) := by
  unfold fbA3 fbA2 fbA1
  have h := fb_size0
  refine ⟨?_, ?_, ?_⟩ <;> simp [h]
theorem fb3 (c : Nat) : (fbA2 c).setIfInBounds 62 (.int .u8 ((hexD 1).toNat : Nat)) = fbA3 c := rfl
theorem fb_sl {r : Hp} {b : Nat} {c : UInt8} {E : TypeId} {fz : Nat × Nat} (h : r b = some (.cells (fbA3 c.toNat) E fz)) : Sl r 1 (.slice (some ⟨b, 62 * 1, none⟩) (65 - 62) (65 - 62)) 3 (u8s (49 :: hex2 c)) := by
  obtain ⟨h1, h2, h3⟩ := fb_last c.toNat
  refine ⟨rfl, by simp [maxLen], .inr ⟨b, 62, 3, _, _, _, rfl, Nat.le_refl _, h, fun j hj => ?_⟩⟩
  have hj3 : j < 3 := hj
  match j, hj3 with
  | 0, _ => exact h1
  | 1, _ => exact h2
  | 2, _ => exact h3
attribute [irreducible] fbA0 fbA1 fbA2 fbA3
set_option maxRecDepth 10000 in
set_option maxHeartbeats 4000000 in
theorem fbits_any (r : Hp) (hT : TabR r) (c : UInt8) : Tri Tryz.prog r 123 [.slice none 0 0, .int .u64 ((c.toNat : Nat) + 256 : Int), .int .i64 16, .bool false, .bool false] [] fun w H => w = .tuple #[.slice none 0 0, .string (bs (49 :: hex2 c))] ∧ H = [] := by
  refine Tri.free2 fun R HR => ?_
  have hp := pow2_any r
  have ht := tz_any r hT
  have hc := c.toNat_lt
  refine fn_of_sw Tryz.func123 rfl _ rfl ?_; refine aen Tryz.ntmps123 ?_
  repeat' (first | ((with_reducible apply kx_alloc (z := .agg fbA0)); kernel_rfl; (exact qcl); intro b12; (refine apk ?_)) | (refine acl Tryz.func132 ?_; refine acr (hp) ?_; rintro v' H' ⟨rfl, rfl⟩; all_goals refine apl ?_) | (refine acl Tryz.func133 ?_; refine acr (ht) ?_; rintro v' H' ⟨rfl, rfl⟩; all_goals refine apl ?_) | (exfalso; first | contradiction | omega) | refine aw0 ?_ | (refine ap2 ?_ ?_ <;> try intro h) | refine aw1 ?_ | (refine abx ?_; intro bb) | (refine abz ?_; intro bz) | (refine ahv ?_; intro v' hv') | (refine aac ?_; intro ac cc) | refine aw2 ?_ | (refine ap4 ?_ ?_ <;> try intro h) | apply True.intro)
  refine sw_loop (fun gm t H' => ∃ (k : Nat) (u i : Int) (A : Array Value), gm = 3 - k ∧ ((k = 0 ∧ u = (c.toNat : Nat) + 256 ∧ i = 65 ∧ A = fbA0) ∨ (k = 1 ∧ u = ((c.toNat : Nat) + 256 : Int) / 16 ∧ i = 64 ∧ A = fbA1 c.toNat) ∨ (k = 2 ∧ u = ((c.toNat : Nat) + 256 : Int) / 16 / 16 ∧ i = 63 ∧ A = fbA2 c.toNat)) ∧ (∃ G, Takes [pt b12 (.cells A 179 (0, 0))] H' G) ∧ Sls t 102 [(0, .slice none 0 0), (1, .int .u64 u), (3, .bool false), (4, .bool false), (10, .slice none 0 0), (11, .string ⟨#[]⟩), (12, .pointer (some ⟨b12, 0, none⟩)), (13, .int .i64 i), (14, .int .u64 4), (15, .int .u64 16), (16, .int .u64 15)]) _ ⟨0, _, _, _, rfl, .inl ⟨rfl, rfl, rfl, rfl⟩, ⟨_, atks⟩, asls⟩ ?_
  rintro gm t H' ⟨k, u, i, A, rfl, hst, ⟨G, hp⟩, hs'⟩
  revert t; refine sls_all ?_; iterate 91 intro uu'
  refine sw_takeG hp ?_; clear hp
  rcases hst with ⟨rfl, rfl, rfl, rfl⟩ | ⟨rfl, rfl, rfl, rfl⟩ | ⟨rfl, rfl, rfl, rfl⟩
  · repeat' (first | (rw [and15' hc]) | ((with_reducible apply swo_pur); (with_reducible apply pu_ixSN (l := digs) (i := c.toNat % 16)); rfl; rfl; (show _ < 36; omega); (refine apk ?_)) | (rw [digs_get _ (by omega)]) | ((with_reducible apply swo_pur); (with_reducible apply pu_ixA ⟨b12, 64, none⟩ (T := 179) (sz := 1)); exact Tryz.underlying179; exact ty_size; rfl; rfl; omega; rfl; (refine apk ?_)) | ((with_reducible apply kx_storeA); exact ty_size; rfl; rfl; (exact atk); rfl; (rw [fb_size0]; omega); (refine apk ?_)) | (exfalso; first | contradiction | omega) | refine aw0 ?_ | (refine ap2 ?_ ?_ <;> try intro h) | refine aw1 ?_ | (refine abx ?_; intro bb) | (refine abz ?_; intro bz) | (refine ahv ?_; intro v' hv') | (refine aac ?_; intro ac cc) | refine aw2 ?_ | (refine ap4 ?_ ?_ <;> try intro h) | apply True.intro)
    exact ⟨_, by omega, 1, _, _, _, rfl, .inr (.inl ⟨rfl, rfl, rfl, rfl⟩), ⟨_, by unfold fbA1; exact atks⟩, asls⟩
  · repeat' (first | (rw [and15b' hc]) | ((with_reducible apply swo_pur); (with_reducible apply pu_ixSN (l := digs) (i := c.toNat / 16)); rfl; rfl; (show _ < 36; omega); (refine apk ?_)) | (rw [digs_get _ (by omega)]) | ((with_reducible apply swo_pur); (with_reducible apply pu_ixA ⟨b12, 63, none⟩ (T := 179) (sz := 1)); exact Tryz.underlying179; exact ty_size; rfl; rfl; omega; rfl; (refine apk ?_)) | ((with_reducible apply kx_storeA); exact ty_size; rfl; rfl; (exact atk); rfl; (rw [fb_size1]; omega); (refine apk ?_)) | (exfalso; first | contradiction | omega) | refine aw0 ?_ | (refine ap2 ?_ ?_ <;> try intro h) | refine aw1 ?_ | (refine abx ?_; intro bb) | (refine abz ?_; intro bz) | (refine ahv ?_; intro v' hv') | (refine aac ?_; intro ac cc) | refine aw2 ?_ | (refine ap4 ?_ ?_ <;> try intro h) | apply True.intro)
    exact ⟨_, by omega, 2, _, _, _, rfl, .inr (.inr ⟨rfl, rfl, rfl, rfl⟩), ⟨_, by unfold fbA2; exact atks⟩, asls⟩
  · have h1 : ((c.toNat : Nat) + 256 : Int) / 16 / 16 = ((1 : Nat) : Int) := by omega
    rw [h1]
    repeat' (first | ((with_reducible apply swo_pur); (with_reducible apply pu_ixSN (l := digs) (i := 1)); rfl; rfl; (show _ < 36; omega); (refine apk ?_)) | (rw [digs_get _ (by decide)]) | ((with_reducible apply swo_pur); (with_reducible apply pu_ixA ⟨b12, 62, none⟩ (T := 179) (sz := 1)); exact Tryz.underlying179; exact ty_size; rfl; rfl; omega; rfl; (refine apk ?_)) | ((with_reducible apply kx_storeA); exact ty_size; rfl; rfl; (exact atk); rfl; (rw [fb_size2]; omega); (refine apk ?_)) | (rw [fb3]) | ((with_reducible apply swo_pur); (with_reducible apply pu_slA (T := 179) (sz := 1) (i := 62) (b := b12)); exact Tryz.underlying179; exact ty_size; rfl; rfl; omega; (refine apk ?_)) | ((with_reducible apply kx_lend [(b12, .cells (fbA3 c.toNat) 179 (0, 0))]); (exact atks); intro r5 hl5; (with_reducible apply kx_b2sr (n := 3) (bl := 49 :: hex2 c)); exact ty_el; kernel_rfl; kernel_rfl; rfl; exact fb_sl (Lent.h1 hl5); refine apm ?_) | (exfalso; first | contradiction | omega) | refine aw0 ?_ | (refine ap2 ?_ ?_ <;> try intro h) | refine aw1 ?_ | (refine abx ?_; intro bb) | (refine abz ?_; intro bz) | (refine ahv ?_; intro v' hv') | (refine aac ?_; intro ac cc) | refine aw2 ?_ | (refine ap4 ?_ ?_ <;> try intro h) | apply True.intro)
    ((with_reducible apply fp_ret); exact res_2 rfl rfl rfl)
    exact HR.out _ _ _ [] Takes.all ⟨rfl, rfl⟩
set_option maxRecDepth 10000 in
set_option maxHeartbeats 4000000 in
theorem ifmt_any (r : Hp) (hT : TabR r) (c : UInt8) : Tri Tryz.prog r 99 [.int .i64 ((c.toNat : Nat) + 256 : Int), .int .i64 16] [] fun w H => w = .string (bs (49 :: hex2 c)) ∧ H = [] := by
  refine Tri.free2 fun R HR => ?_
  have hb := fbits_any r hT c
  have hc := c.toNat_lt
  refine fn_of_sw Tryz.func99 rfl _ rfl ?_; refine aen Tryz.ntmps99 ?_
  repeat' (first | (refine acl Tryz.func123 ?_; refine acr (hb) ?_; rintro v' H' ⟨rfl, rfl⟩; all_goals refine apl ?_) | (exfalso; first | contradiction | omega) | refine aw0 ?_ | (refine ap2 ?_ ?_ <;> try intro h) | refine aw1 ?_ | (refine abx ?_; intro bb) | (refine abz ?_; intro bz) | (refine ahv ?_; intro v' hv') | (refine aac ?_; intro ac cc) | refine aw2 ?_ | (refine ap4 ?_ ?_ <;> try intro h) | apply True.intro)
  ((with_reducible apply fp_ret); exact res_1 rfl rfl)
  exact HR.out _ _ _ [] Takes.all ⟨rfl, rfl⟩
set_option maxRecDepth 10000 in
set_option maxHeartbeats 4000000 in
theorem fmt_any (r : Hp) (hT : TabR r) (c : UInt8) : Tri Tryz.prog r 74 [.int .i64 ((c.toNat : Nat) + 256 : Int), .int .i64 16] [] fun w H => w = .string (bs (49 :: hex2 c)) ∧ H = [] := by
  refine Tri.free2 fun R HR => ?_
  have hb := ifmt_any r hT c
  refine fn_of_sw Tryz.func74 rfl _ rfl ?_; refine aen Tryz.ntmps74 ?_
  repeat' (first | (refine acl Tryz.func99 ?_; refine acr (hb) ?_; rintro v' H' ⟨rfl, rfl⟩; all_goals refine apl ?_) | (exfalso; first | contradiction | omega) | refine aw0 ?_ | (refine ap2 ?_ ?_ <;> try intro h) | refine aw1 ?_ | (refine abx ?_; intro bb) | (refine abz ?_; intro bz) | (refine ahv ?_; intro v' hv') | (refine aac ?_; intro ac cc) | refine aw2 ?_ | (refine ap4 ?_ ?_ <;> try intro h) | apply True.intro)
  ((with_reducible apply fp_ret); exact res_1 rfl rfl)
  exact HR.out _ _ _ [] Takes.all ⟨rfl, rfl⟩
end Go.Proofs.YtdccjfabdfgomaaGreatDoor
