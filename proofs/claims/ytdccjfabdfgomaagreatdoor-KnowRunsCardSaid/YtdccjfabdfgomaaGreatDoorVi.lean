
/- query's compare functions over texts; query.copied: their contracts. -/
import Derived.Test.YtdccjfabdfgomaaGreatDoorVh
import Derived.Test.YtdccjfabdfgomaaGreatDoorUl
namespace Go.Proofs.YtdccjfabdfgomaaGreatDoor
open Go.RowKit Sx

namespace Sx
theorem sw_midW {P : Program} {l : Option Nat} {r : Hp} {Q : Exit → St} {t : List Value} {H : List Ch} {c1 c2 : Code} (I : St) (h1 : SW P l r c1 (Then I Q) t H) (h2 : ∀ t' H', I t' H' → SW P l r c2 Q t' H') : SW P l r (.seq c1 c2) Q t H :=
  sw_seq (sw_mono h1 fun e t' H' h => by cases e <;> first | exact h | exact h2 _ _ h)
/-- A whole block that is read alone. -/
theorem pu_ldW {P : Program} {r : Hp} {t : List Value} {d : Option Tmp} {ty : TypeId} {pos : String} {af : Array Edge} {gd : Option (Nat × Bool)} {T E : TypeId} {x : Operand} {b n : Nat} {c : List Value} {fz : Nat × Nat} [TyF P T true n] (hx : evO t x = some (.pointer (some ⟨b, 0, none⟩))) (h : r b = some (.cells c.toArray E fz)) (hl : c.length = n) : Pur P r t ⟨d, .load T x, ty, pos, af, gd⟩ (.agg c.toArray) :=
  pu_ldN hx (rlN_r (n := c.length) h (by unfold cut; rw [List.drop_zero, List.take_of_length_le (Nat.le_refl _)])) hl
end Sx
set_option maxHeartbeats 1000000 in
theorem compareT_any (r : Hp) (a b : Tx) : Tri Tryz.prog r 59 [.string (bs a), .string (bs b)] [] fun w H => (∃ c : Int, w = .int .i64 c ∧ (c < 0 ↔ a < b)) ∧ H = [] := by
  refine Tri.free2 fun R HR => ?_
  have h1 := naN_any r a
  have h2 := naN_any r b
  refine fn_of_sw Tryz.func59 rfl _ rfl ?_; refine aen Tryz.ntmps59 ?_
  repeat' (first | (refine acl Tryz.func84 ?_; refine acr (h1) ?_; rintro v' H' ⟨rfl, rfl⟩; all_goals refine apl ?_) | (refine acl Tryz.func84 ?_; refine acr (h2) ?_; rintro v' H' ⟨rfl, rfl⟩; all_goals refine apl ?_) | (exfalso; first | contradiction | omega) | refine aw0 ?_ | (refine ap2 ?_ ?_ <;> try intro h) | refine aw1 ?_ | (refine abx ?_; intro bb) | (refine abz ?_; intro bz) | (refine ahv ?_; intro v' hv') | (refine aac ?_; intro ac cc) | refine aw2 ?_ | (refine ap4 ?_ ?_ <;> try intro h) | apply True.intro)
  all_goals
    ((with_reducible apply fp_ret); exact res_1 rfl rfl)
    refine HR.out _ _ _ [] (by (exact atks)) ⟨⟨_, rfl, ?_⟩, rfl⟩
    rw [← lessT_iff]
    simp_all
def keyT (q : QuV) : Tx := textQ q.key
set_option maxRecDepth 10000 in
set_option maxHeartbeats 1000000 in
theorem query1_any (r : Hp) (hT : TabR r) (p q : QuV) (hp : QuR r p) (hq : QuR r q) (sp : sizeQ p.key ≤ 9000000) (sq : sizeQ q.key ≤ 9000000) : Tri Tryz.prog r 58 [.agg (encQ p).toArray, .agg (encQ q).toArray] [] fun w H => (∃ c : Int, w = .int .i64 c ∧ (c < 0 ↔ keyT p < keyT q)) ∧ H = [] := by
  refine Tri.free2 fun R HR => ?_
  unfold keyT at HR
  have ht1 := fun r' (h : sub r r') => text_any p sp r' (hT.mono h) (hp.mono h)
  have ht2 := fun r' (h : sub r r') => text_any q sq r' (hT.mono h) (hq.mono h)
  rw [show encQ p = [.int .i64 p.kind, p.gv, p.sv] from rfl] at ht1
  rw [show encQ q = [.int .i64 q.kind, q.gv, q.sv] from rfl] at ht2
  show Tri _ _ _ [.agg [.int .i64 p.kind, p.gv, p.sv].toArray, .agg [.int .i64 q.kind, q.gv, q.sv].toArray] _ _
  generalize textQ p.key = a at *
  generalize textQ q.key = b at *
  refine fn_of_sw Tryz.func58 rfl _ rfl ?_; refine aen Tryz.ntmps58 ?_
  repeat' (first | ((with_reducible apply kx_box (d := some 2)); rfl; (exact qcl); intro b2; (refine apk ?_)) | ((with_reducible apply kx_box (d := some 3)); rfl; (exact qcl); intro b3; (refine apk ?_)) | ((with_reducible apply pi_pur); rfl; (exact qwt); (with_reducible apply pu_ldW); rfl; (first | assumption | exact Lent.h1 hl' | exact Lent.h2 hl' | exact Lent.h3 hl'); rfl; (refine apk ?_)) | ((with_reducible apply sw_draw (id := 1) 5 [(0, true), (2, true), (1, false), (3, false), (4, false)] [(5, false)] [(b2, .cells [.int .i64 p.kind, p.gv, p.sv].toArray 27 (0, 0)), (b3, .cells [.int .i64 q.kind, q.gv, q.sv].toArray 27 (0, 0))]); kernel_rfl; (exact atks); kernel_rfl; intro r' hl') | (refine acl Tryz.func25 ?_; refine acr (ht1 _ hl'.1) ?_; rintro v' H' ⟨rfl, rfl⟩; all_goals refine apl ?_) | (refine acl Tryz.func25 ?_; refine acr (ht2 _ hl'.1) ?_; rintro v' H' ⟨rfl, rfl⟩; all_goals refine apl ?_) | (refine acl Tryz.func59 ?_; refine acr (compareT_any _ a b) ?_; rintro v' H' ⟨⟨c, rfl, hc⟩, rfl⟩; all_goals refine apl ?_) | (exfalso; first | contradiction | omega) | refine aw0 ?_ | (refine ap2 ?_ ?_ <;> try intro h) | refine aw1 ?_ | (refine abx ?_; intro bb) | (refine abz ?_; intro bz) | (refine ahv ?_; intro v' hv') | (refine aac ?_; intro ac cc) | refine aw2 ?_ | (refine ap4 ?_ ?_ <;> try intro h) | apply True.intro)
  ((with_reducible apply fp_ret); exact res_1 rfl rfl)
  exact HR.out _ _ _ [] Takes.all ⟨⟨c, rfl, hc⟩, rfl⟩
set_option maxRecDepth 10000 in
set_option maxHeartbeats 1000000 in
theorem query2_any (r : Hp) (hT : TabR r) (p q : QuV) (hp : QuR r p) (hq : QuR r q) (sp : sizeQ p.key ≤ 9000000) (sq : sizeQ q.key ≤ 9000000) : Tri Tryz.prog r 62 [.agg (encQ p).toArray, .agg (encQ q).toArray] [] fun w H => w = .bool (decide (keyT p = keyT q)) ∧ H = [] := by
  refine Tri.free2 fun R HR => ?_
  unfold keyT at HR
  have ht1 := fun r' (h : sub r r') => text_any p sp r' (hT.mono h) (hp.mono h)
  have ht2 := fun r' (h : sub r r') => text_any q sq r' (hT.mono h) (hq.mono h)
  rw [show encQ p = [.int .i64 p.kind, p.gv, p.sv] from rfl] at ht1
  rw [show encQ q = [.int .i64 q.kind, q.gv, q.sv] from rfl] at ht2
  show Tri _ _ _ [.agg [.int .i64 p.kind, p.gv, p.sv].toArray, .agg [.int .i64 q.kind, q.gv, q.sv].toArray] _ _
  generalize textQ p.key = a at *
  generalize textQ q.key = b at *
  refine fn_of_sw Tryz.func62 rfl _ rfl ?_; refine aen Tryz.ntmps62 ?_
  repeat' (first | ((with_reducible apply kx_box (d := some 2)); rfl; (exact qcl); intro b2; (refine apk ?_)) | ((with_reducible apply kx_box (d := some 3)); rfl; (exact qcl); intro b3; (refine apk ?_)) | ((with_reducible apply pi_pur); rfl; (exact qwt); (with_reducible apply pu_ldW); rfl; (first | assumption | exact Lent.h1 hl' | exact Lent.h2 hl' | exact Lent.h3 hl'); rfl; (refine apk ?_)) | ((with_reducible apply sw_draw (id := 1) 5 [(0, true), (2, true), (1, false), (3, false), (4, true)] [(5, false)] [(b2, .cells [.int .i64 p.kind, p.gv, p.sv].toArray 27 (0, 0)), (b3, .cells [.int .i64 q.kind, q.gv, q.sv].toArray 27 (0, 0))]); kernel_rfl; (exact atks); kernel_rfl; intro r' hl') | (refine acl Tryz.func25 ?_; refine acr (ht1 _ hl'.1) ?_; rintro v' H' ⟨rfl, rfl⟩; all_goals refine apl ?_) | (refine acl Tryz.func25 ?_; refine acr (ht2 _ hl'.1) ?_; rintro v' H' ⟨rfl, rfl⟩; all_goals refine apl ?_) | (exfalso; first | contradiction | omega) | refine aw0 ?_ | (refine ap2 ?_ ?_ <;> try intro h) | refine aw1 ?_ | (refine abx ?_; intro bb) | (refine abz ?_; intro bz) | (refine ahv ?_; intro v' hv') | (refine aac ?_; intro ac cc) | refine aw2 ?_ | (refine ap4 ?_ ?_ <;> try intro h) | apply True.intro)
  ((with_reducible apply fp_ret); exact res_1 rfl rfl)
  exact HR.out _ _ _ [] Takes.all ⟨rfl, rfl⟩
end Go.Proofs.YtdccjfabdfgomaaGreatDoor
