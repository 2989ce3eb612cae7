
/- Trees in memory; know.exact, open, none, work.set: their contracts. -/
import Derived.Test.YtdccjfabdfgomaaGreatDoorOr
namespace Go.Proofs.YtdccjfabdfgomaaGreatDoor
open Go.RowKit Go.Maps Sx

inductive NoV where
  | mk (kind : Int) (s0 s1 s2 s3 : Nat) (kv : Value) (kids : List NoV) (min max : Int) (lazy : Bool) (group : Int)
namespace NoV
def kids : NoV → List NoV | .mk _ _ _ _ _ _ l _ _ _ _ => l
mutual
def key : NoV → Nd
  | .mk k s0 s1 s2 s3 _ l mn mx lz g => .mk k [s0, s1, s2, s3] (keys l) mn mx lz g
def keys : List NoV → List Nd
  | [] => []
  | n :: l => key n :: keys l
end
end NoV
instance : Inhabited NoV := ⟨.mk 0 0 0 0 0 (.slice none 0 0) [] 0 0 false 0⟩
theorem nkeys_map : ∀ l : List NoV, NoV.keys l = l.map NoV.key
  | [] => by simp [NoV.keys]
  | q :: l => by simp [NoV.keys, nkeys_map l]
def encN : NoV → List Value
  | .mk k s0 s1 s2 s3 kv _ mn mx lz g => [.int .i64 k, .int .u64 s0, .int .u64 s1, .int .u64 s2, .int .u64 s3, kv, .int .i64 mn, .int .i64 mx, .bool lz, .int .i64 g]
theorem encN_len (n : NoV) : (encN n).length = 10 := by cases n; rfl
mutual
def NoR (r : Hp) : NoV → Prop
  | .mk k s0 s1 s2 s3 kv l _ _ _ _ => Els r 10 encN kv l ∧ NoL r l ∧ KindR k ∧ s0 < 2 ^ 64 ∧ s1 < 2 ^ 64 ∧ s2 < 2 ^ 64 ∧ s3 < 2 ^ 64 ∧ one? kv = true
def NoL (r : Hp) : List NoV → Prop
  | [] => True
  | n :: l => NoR r n ∧ NoL r l
end
theorem noL_iff {r : Hp} : ∀ {l : List NoV}, NoL r l ↔ ∀ n ∈ l, NoR r n
  | [] => by simp [NoL]
  | q :: l => by simp [NoL, noL_iff (l := l)]
theorem h7_one : ∀ k a1 n1 c1 a2 n2 c2 a3 n3 c3 (q : QuV), (encQ q).all one? = true → ([.bool k, .slice a1 n1 c1, .slice a2 n2 c2, .slice a3 n3 c3, .int .i64 q.kind, q.gv, q.sv] : List Value).all one? = true := fun k a1 n1 c1 a2 n2 c2 a3 n3 c3 q ho => by
  have h' := one3 ho
  simp only [List.all_cons, Bool.and_eq_true] at h' ⊢
  exact ⟨rfl, rfl, rfl, rfl, h'⟩
set_option maxRecDepth 10000 in
set_option maxHeartbeats 2000000 in
theorem exact_any (r : Hp) (hT : TabR r) (v : Value) (l : List Tx) (hv : Els r 1 encTx v l) (hl : l.length ≤ 10000000) : Tri Tryz.prog r 20 [v] [] fun w H => ∃ u : InfV, u.key = exactI l ∧ (encQ u.q).all one? = true ∧ w = .agg [.bool u.known, .slice u.ea u.ex.length u.ec, .slice u.pa u.pre.length u.pc, .slice u.sa u.suf.length u.sc, .int .i64 u.q.kind, u.q.gv, u.q.sv].toArray ∧ H = [OwnI u] := by
  have hr := row_any r v l hv hl
  have hall := kall_any r hT
  have hk : exactI l = ⟨true, rowT l, [], [], allQ⟩ := rfl
  obtain ⟨X, hX⟩ : ∃ X, rowT l = X := ⟨_, rfl⟩
  rw [hX] at hr hk
  rw [hk]
  refine Tri.freeI fun R HR => ?_
  refine fn_of_sw Tryz.func20 rfl _ rfl ?_; refine aen Tryz.ntmps20 ?_
  repeat' (first | ((with_reducible apply kx_alloc (E := 29)); exact ty_zero; (exact qcl); intro b2; (refine apk ?_)) | (refine acl Tryz.func32 ?_; refine acr (hr) ?_; rintro v' H' ⟨a, c, rfl, rfl⟩; all_goals refine apl ?_) | (refine acl Tryz.func33 ?_; refine acr (hall) ?_; rintro v' H' ⟨q, hq1, hq2, rfl, rfl⟩; all_goals refine apl ?_) | ((with_reducible apply kx_storeN); exact ty_size; rfl; rfl; rfl; (exact qsw); exact h7_one _ _ _ _ _ _ _ _ _ _ _ hq2; (exact qst); (refine apk ?_)) | (exfalso; first | contradiction | omega) | refine aw0 ?_ | (refine ap2 ?_ ?_ <;> try intro h) | refine aw1 ?_ | (refine abx ?_; intro bb) | (refine abz ?_; intro bz) | (refine ahv ?_; intro v' hv') | (refine aac ?_; intro ac cc) | refine aw2 ?_ | (refine ap4 ?_ ?_ <;> try intro h) | apply True.intro)
  ((with_reducible apply fp_ret); exact res_W rfl rfl (by (exact atk)) ty_agg ty_size rfl)
  exact HR.out _ _ _ [OwnI ⟨true, a, c, X, none, 0, [], none, 0, [], q⟩] (takesI (As := [TxC a c X, OwnQ q]) (G2 := []) (by (exact atks)) fun h e => all_one.2 (own_two h e)) ⟨⟨true, a, c, X, none, 0, [], none, 0, [], q⟩, by show InfK.mk _ _ _ _ _ = _; rw [hq1], hq2, rfl, rfl⟩
set_option maxRecDepth 10000 in
set_option maxHeartbeats 2000000 in
theorem open_any (r : Hp) (hT : TabR r) : Tri Tryz.prog r 26 [] [] fun w H => ∃ u : InfV, u.key = openI ∧ (encQ u.q).all one? = true ∧ w = .agg [.bool u.known, .slice u.ea u.ex.length u.ec, .slice u.pa u.pre.length u.pc, .slice u.sa u.suf.length u.sc, .int .i64 u.q.kind, u.q.gv, u.q.sv].toArray ∧ H = [OwnI u] := by
  have hall := kall_any r hT
  refine Tri.freeI fun R HR => ?_
  refine fn_of_sw Tryz.func26 rfl _ rfl ?_; refine aen Tryz.ntmps26 ?_
  repeat' (first | ((with_reducible apply kx_alloc (E := 29)); exact ty_zero; (exact qcl); intro b0; (refine apk ?_)) | ((with_reducible apply kx_bsL (d := some 1)); exact ty_el; exact ty_inf; rfl; rfl; rfl; (exact qcs); rfl; intro b1; (refine apk ?_)) | ((with_reducible apply kx_bsL (d := some 2)); exact ty_el; exact ty_inf; rfl; rfl; rfl; (exact qcs); rfl; intro b2; (refine apk ?_)) | (refine acl Tryz.func33 ?_; refine acr (hall) ?_; rintro v' H' ⟨q, hq1, hq2, rfl, rfl⟩; all_goals refine apl ?_) | ((with_reducible apply kx_storeN); exact ty_size; rfl; rfl; rfl; (exact qsw); exact h7_one _ _ _ _ _ _ _ _ _ _ _ hq2; (exact qst); (refine apk ?_)) | (exfalso; first | contradiction | omega) | refine aw0 ?_ | (refine ap2 ?_ ?_ <;> try intro h) | refine aw1 ?_ | (refine abx ?_; intro bb) | (refine abz ?_; intro bz) | (refine ahv ?_; intro v' hv') | (refine aac ?_; intro ac cc) | refine aw2 ?_ | (refine ap4 ?_ ?_ <;> try intro h) | apply True.intro)
  ((with_reducible apply fp_ret); exact res_W rfl rfl (by (exact atk)) ty_agg ty_size rfl)
  exact HR.out _ _ _ [OwnI ⟨false, none, 0, [], some ⟨b1, 0, none⟩, 1, [[]], some ⟨b2, 0, none⟩, 1, [[]], q⟩] (takesI (As := [pt b1 (.cells [.string (bs [])].toArray 9 (0, 0)), pt b2 (.cells [.string (bs [])].toArray 9 (0, 0)), OwnQ q]) (G2 := []) (by (exact atks)) fun h e => all_one.2 (own_three h (by
    obtain ⟨x1, y1, d1, rfl, h1, x2, y2, d2, rfl, h2, h3⟩ := e
    exact ⟨x1, _, d1, rfl, lit1_row x1 h1, x2, _, d2, rfl, lit1_row x2 h2, h3⟩))) ⟨_, by show InfK.mk _ _ _ _ _ = _; rw [hq1]; rfl, hq2, rfl, rfl⟩
set_option maxRecDepth 10000 in
set_option maxHeartbeats 2000000 in
theorem none_any (r : Hp) (hT : TabR r) (n : NoV) : Tri Tryz.prog r 14 [.agg (encN n).toArray] [] fun w H => ∃ u : InfV, u.key = exactI [[]] ∧ (encQ u.q).all one? = true ∧ w = .agg [.bool u.known, .slice u.ea u.ex.length u.ec, .slice u.pa u.pre.length u.pc, .slice u.sa u.suf.length u.sc, .int .i64 u.q.kind, u.q.gv, u.q.sv].toArray ∧ H = [OwnI u] := by
  have hex : ∀ r' b, sub r r' → r' b = some (.cells [.string (bs [])].toArray 9 (0, 0)) → Tri Tryz.prog r' 20 [.slice (some ⟨b, 0, none⟩) 1 1] [] fun w H => ∃ u : InfV, u.key = exactI [[]] ∧ (encQ u.q).all one? = true ∧ w = .agg [.bool u.known, .slice u.ea u.ex.length u.ec, .slice u.pa u.pre.length u.pc, .slice u.sa u.suf.length u.sc, .int .i64 u.q.kind, u.q.gv, u.q.sv].toArray ∧ H = [OwnI u] := fun r' b s1 h => exact_any r' (hT.mono s1) _ [[]] (lit_txs (n := 1) h rfl rfl (by omega)) (by simp)
  obtain ⟨k, s0, s1, s2, s3, kv, l, mn, mx, lz, g⟩ := n
  refine Tri.free2 fun R HR => ?_
  show Tri _ _ _ [.agg [.int .i64 k, .int .u64 s0, .int .u64 s1, .int .u64 s2, .int .u64 s3, kv, .int .i64 mn, .int .i64 mx, .bool lz, .int .i64 g].toArray] _ _
  refine fn_of_sw Tryz.func14 rfl _ rfl ?_; refine aen Tryz.ntmps14 ?_
  repeat' (first | ((with_reducible apply kx_box); rfl; (exact qcl); intro b1; (refine apk ?_)) | ((with_reducible apply kx_alloc (E := 29)); exact ty_zero; (exact qcl); intro b2; (refine apk ?_)) | (first | ((with_reducible apply kx_bs1); exact ty_el; exact ty_inf; rfl; rfl; rfl; intro bz; (refine apk ?_)) | ((with_reducible apply kx_bsN); exact ty_el; exact ty_inf; rfl; rfl; rfl; intro bz; (refine apk ?_))) | ((with_reducible apply kx_lend [(bz, .cells [.string (bs [])].toArray 9 (0, 0))]); (exact atks); intro r' hl'; refine acl Tryz.func20 ?_; refine acr (hex _ bz hl'.1 (Lent.h1 hl')) ?_; rintro v' H' ⟨u, hu1, hu2, rfl, rfl⟩; all_goals refine apm ?_) | ((with_reducible apply kx_storeN); exact ty_size; rfl; rfl; rfl; (exact qsw); exact encI_one hu2; (exact qst); (refine apk ?_)) | (exfalso; first | contradiction | omega) | refine aw0 ?_ | (refine ap2 ?_ ?_ <;> try intro h) | refine aw1 ?_ | (refine abx ?_; intro bb) | (refine abz ?_; intro bz) | (refine ahv ?_; intro v' hv') | (refine aac ?_; intro ac cc) | refine aw2 ?_ | (refine ap4 ?_ ?_ <;> try intro h) | apply True.intro)
  ((with_reducible apply fp_ret); exact res_W rfl rfl (by (exact atk)) ty_agg ty_size rfl)
  exact HR.out _ _ _ [OwnI u] (by (exact atks)) ⟨u, hu1, hu2, rfl, rfl⟩
end Go.Proofs.YtdccjfabdfgomaaGreatDoor
