
/- know.Of at trees whose parts fit; literals' trees fit; mudlarklaw17.one, of, star: their contracts. -/
import Derived.Test.YtdccjfabdfgomaaGreatDoorOu
import Derived.Test.YtdccjfabdfgomaaGreatDoorUi
namespace Go.Proofs.YtdccjfabdfgomaaGreatDoor
open Go.RowKit Go.Maps Sx

def askM : Lit → Option Value := upd (upd (upd (upd (upd (upd (upd (upd (upd (upd (upd (upd (fun _ => none) (.int .i64 1) (.func (.func 14) #[] #[])) (.int .i64 3) (.func (.func 15) #[] #[])) (.int .i64 4) (.func (.func 16) #[] #[])) (.int .i64 5) (.func (.func 17) #[] #[])) (.int .i64 6) (.func (.func 18) #[] #[])) (.int .i64 7) (.func (.func 19) #[] #[])) (.int .i64 8) (.func (.func 14) #[] #[])) (.int .i64 9) (.func (.func 14) #[] #[])) (.int .i64 10) (.func (.func 14) #[] #[])) (.int .i64 11) (.func (.func 14) #[] #[])) (.int .i64 12) (.func (.func 14) #[] #[])) (.int .i64 13) (.func (.func 14) #[] #[])
theorem askM3 : askM (.int .i64 3) = some (.func (.func 15) #[] #[]) := by simp [askM, upd, Lit.sameKey]
theorem askM4 : askM (.int .i64 4) = some (.func (.func 16) #[] #[]) := by simp [askM, upd, Lit.sameKey]
theorem askM6 : askM (.int .i64 6) = some (.func (.func 18) #[] #[]) := by simp [askM, upd, Lit.sameKey]
theorem nk_key (k : Int) (h : -100 ≤ k ∧ k ≤ 100) : keyOf Tryz.prog 31 (.int .i64 k) = some (.int .i64 k) := keyOf_int_mk Tryz.underlying31 (by simp [Lit.wf, IntKind.min, IntKind.max, IntKind.signed, IntKind.bits]; omega)
set_option maxRecDepth 10000 in
set_option maxHeartbeats 8000000 in
theorem ofSet_any (r : Hp) (hT : TabR r) (s0 s1 s2 s3 : Nat) (kv : Value) (l : List NoV) (mn mx : Int) (lz : Bool) (gr : Int) (hn : NoR r (.mk 3 s0 s1 s2 s3 kv l mn mx lz gr)) : Tri Tryz.prog r 5 [.agg [.int .i64 3, .int .u64 s0, .int .u64 s1, .int .u64 s2, .int .u64 s3, kv, .int .i64 mn, .int .i64 mx, .bool lz, .int .i64 gr].toArray] [] fun w H => ∃ u : InfV, u.key = setI [s0, s1, s2, s3] ∧ (encQ u.q).all one? = true ∧ w = .agg [.bool u.known, .slice u.ea u.ex.length u.ec, .slice u.pa u.pre.length u.pc, .slice u.sa u.suf.length u.sc, .int .i64 u.q.kind, u.q.gv, u.q.sv].toArray ∧ H = [OwnI u] := by
  have hkn := nk_key
  have hget := askM3
  have hcall : Tri Tryz.prog r 15 [.agg [.int .i64 3, .int .u64 s0, .int .u64 s1, .int .u64 s2, .int .u64 s3, kv, .int .i64 mn, .int .i64 mx, .bool lz, .int .i64 gr].toArray] [] fun w H => ∃ u : InfV, u.key = setI [s0, s1, s2, s3] ∧ (encQ u.q).all one? = true ∧ w = .agg [.bool u.known, .slice u.ea u.ex.length u.ec, .slice u.pa u.pre.length u.pc, .slice u.sa u.suf.length u.sc, .int .i64 u.q.kind, u.q.gv, u.q.sv].toArray ∧ H = [OwnI u] := by
    have h := set_any r hT (.mk 3 s0 s1 s2 s3 kv l mn mx lz gr) hn
    simp only [NoV.key, Nd.set] at h
    exact h
  refine Tri.free2 fun R HR => ?_
  refine fn_of_sw Tryz.func5 rfl _ rfl ?_; refine aen Tryz.ntmps5 ?_
  repeat' (first | ((with_reducible apply kx_box); rfl; (exact qcl); intro b1; (refine apk ?_)) | ((with_reducible apply kx_alloc (E := 29)); exact ty_zero; (exact qcl); intro b2; (refine apk ?_)) | ((with_reducible apply kx_mmake 31); intro bm; (refine apk ?_)) | ((with_reducible apply kx_mins (kt := 31) (et := 48)); kernel_rfl; exact (int_keyed Tryz.underlying31); rfl; rfl; rfl; exact hkn _ (by omega); (exact atk); (unfold maxLen; omega); (refine apk ?_)) | ((with_reducible apply kx_mgetS (kt := 31) (et := 48)); kernel_rfl; exact (int_keyed Tryz.underlying31); exact ty_zero; rfl; rfl; exact hkn _ (by omega); (exact atk); exact hget; (refine apk ?_)) | (refine acl Tryz.func15 ?_; refine acr (hcall) ?_; rintro v' H' ⟨u, hu1, hu2, rfl, rfl⟩; all_goals refine apl ?_) | ((with_reducible apply kx_storeN); exact ty_size; rfl; rfl; rfl; (exact qsw); exact encI_one hu2; (exact qst); (refine apk ?_)) | (exfalso; first | contradiction | omega) | refine aw0 ?_ | (refine ap2 ?_ ?_ <;> try intro h) | refine aw1 ?_ | (refine abx ?_; intro bb) | (refine abz ?_; intro bz) | (refine ahv ?_; intro v' hv') | (refine aac ?_; intro ac cc) | refine aw2 ?_ | (refine ap4 ?_ ?_ <;> try intro h) | apply True.intro)
  ((with_reducible apply fp_ret); exact res_W rfl rfl (by (exact atk)) ty_agg ty_size rfl)
  exact HR.out _ _ _ [OwnI u] (by (exact atks)) ⟨u, hu1, hu2, rfl, rfl⟩
set_option maxRecDepth 10000 in
set_option maxHeartbeats 8000000 in
theorem ofCat_any (r : Hp) (hT : TabR r) (s0 s1 s2 s3 : Nat) (kv : Value) (l : List NoV) (mn mx : Int) (lz : Bool) (gr : Int) (hl : Els r 10 encN kv l) (hk1 : one? kv = true) (hr : ∀ x ∈ l, NoR r x) (ih : ∀ x ∈ l, OfT x) (hfo : FoldOk (exactI [[]]) (l.map fun x => ofI x.key)) : Tri Tryz.prog r 5 [.agg [.int .i64 4, .int .u64 s0, .int .u64 s1, .int .u64 s2, .int .u64 s3, kv, .int .i64 mn, .int .i64 mx, .bool lz, .int .i64 gr].toArray] [] fun w H => ∃ u : InfV, u.key = joinI (exactI [[]]) behindI (l.map fun x => ofI x.key) ∧ (encQ u.q).all one? = true ∧ w = .agg [.bool u.known, .slice u.ea u.ex.length u.ec, .slice u.pa u.pre.length u.pc, .slice u.sa u.suf.length u.sc, .int .i64 u.q.kind, u.q.gv, u.q.sv].toArray ∧ H = [OwnI u] := by
  have hkn := nk_key
  have hget := askM4
  have hcall := cat_of r hT 4 s0 s1 s2 s3 kv l mn mx lz gr hl hk1 hr ih hfo
  refine Tri.free2 fun R HR => ?_
  refine fn_of_sw Tryz.func5 rfl _ rfl ?_; refine aen Tryz.ntmps5 ?_
  repeat' (first | ((with_reducible apply kx_box); rfl; (exact qcl); intro b1; (refine apk ?_)) | ((with_reducible apply kx_alloc (E := 29)); exact ty_zero; (exact qcl); intro b2; (refine apk ?_)) | ((with_reducible apply kx_mmake 31); intro bm; (refine apk ?_)) | ((with_reducible apply kx_mins (kt := 31) (et := 48)); kernel_rfl; exact (int_keyed Tryz.underlying31); rfl; rfl; rfl; exact hkn _ (by omega); (exact atk); (unfold maxLen; omega); (refine apk ?_)) | ((with_reducible apply kx_mgetS (kt := 31) (et := 48)); kernel_rfl; exact (int_keyed Tryz.underlying31); exact ty_zero; rfl; rfl; exact hkn _ (by omega); (exact atk); exact hget; (refine apk ?_)) | (refine acl Tryz.func16 ?_; refine acr (hcall) ?_; rintro v' H' ⟨u, hu1, hu2, rfl, rfl⟩; all_goals refine apl ?_) | ((with_reducible apply kx_storeN); exact ty_size; rfl; rfl; rfl; (exact qsw); exact encI_one hu2; (exact qst); (refine apk ?_)) | (exfalso; first | contradiction | omega) | refine aw0 ?_ | (refine ap2 ?_ ?_ <;> try intro h) | refine aw1 ?_ | (refine abx ?_; intro bb) | (refine abz ?_; intro bz) | (refine ahv ?_; intro v' hv') | (refine aac ?_; intro ac cc) | refine aw2 ?_ | (refine ap4 ?_ ?_ <;> try intro h) | apply True.intro)
  ((with_reducible apply fp_ret); exact res_W rfl rfl (by (exact atk)) ty_agg ty_size rfl)
  exact HR.out _ _ _ [OwnI u] (by (exact atks)) ⟨u, hu1, hu2, rfl, rfl⟩
set_option maxRecDepth 10000 in
set_option maxHeartbeats 8000000 in
theorem ofRep_any (r : Hp) (hT : TabR r) (s0 s1 s2 s3 : Nat) (kv : Value) (_l : List NoV) (mn mx : Int) (lz : Bool) (gr : Int) (h1 : mn < 1) (h2 : ¬ mx = 0) (h3 : ¬ mx = 1) : Tri Tryz.prog r 5 [.agg [.int .i64 6, .int .u64 s0, .int .u64 s1, .int .u64 s2, .int .u64 s3, kv, .int .i64 mn, .int .i64 mx, .bool lz, .int .i64 gr].toArray] [] fun w H => ∃ u : InfV, u.key = openI ∧ (encQ u.q).all one? = true ∧ w = .agg [.bool u.known, .slice u.ea u.ex.length u.ec, .slice u.pa u.pre.length u.pc, .slice u.sa u.suf.length u.sc, .int .i64 u.q.kind, u.q.gv, u.q.sv].toArray ∧ H = [OwnI u] := by
  have hkn := nk_key
  have hget := askM6
  have hcall := repeat_of r hT 6 s0 s1 s2 s3 kv mn mx lz gr h1 h2 h3
  refine Tri.free2 fun R HR => ?_
  refine fn_of_sw Tryz.func5 rfl _ rfl ?_; refine aen Tryz.ntmps5 ?_
  repeat' (first | ((with_reducible apply kx_box); rfl; (exact qcl); intro b1; (refine apk ?_)) | ((with_reducible apply kx_alloc (E := 29)); exact ty_zero; (exact qcl); intro b2; (refine apk ?_)) | ((with_reducible apply kx_mmake 31); intro bm; (refine apk ?_)) | ((with_reducible apply kx_mins (kt := 31) (et := 48)); kernel_rfl; exact (int_keyed Tryz.underlying31); rfl; rfl; rfl; exact hkn _ (by omega); (exact atk); (unfold maxLen; omega); (refine apk ?_)) | ((with_reducible apply kx_mgetS (kt := 31) (et := 48)); kernel_rfl; exact (int_keyed Tryz.underlying31); exact ty_zero; rfl; rfl; exact hkn _ (by omega); (exact atk); exact hget; (refine apk ?_)) | (refine acl Tryz.func18 ?_; refine acr (hcall) ?_; rintro v' H' ⟨u, hu1, hu2, rfl, rfl⟩; all_goals refine apl ?_) | ((with_reducible apply kx_storeN); exact ty_size; rfl; rfl; rfl; (exact qsw); exact encI_one hu2; (exact qst); (refine apk ?_)) | (exfalso; first | contradiction | omega) | refine aw0 ?_ | (refine ap2 ?_ ?_ <;> try intro h) | refine aw1 ?_ | (refine abx ?_; intro bb) | (refine abz ?_; intro bz) | (refine ahv ?_; intro v' hv') | (refine aac ?_; intro ac cc) | refine aw2 ?_ | (refine ap4 ?_ ?_ <;> try intro h) | apply True.intro)
  ((with_reducible apply fp_ret); exact res_W rfl rfl (by (exact atk)) ty_agg ty_size rfl)
  exact HR.out _ _ _ [OwnI u] (by (exact atks)) ⟨u, hu1, hu2, rfl, rfl⟩
end Go.Proofs.YtdccjfabdfgomaaGreatDoor

namespace Go.Proofs.YtdccjfabdfgomaaGreatDoor
open Go.RowKit Go.Maps Sx

inductive OkN : Nd → Prop
  | set (s : List Nat) (l : List Nd) (mn mx : Int) (lz : Bool) (g : Int) : OkN (.mk 3 s l mn mx lz g)
  | cat (s : List Nat) (l : List Nd) (mn mx : Int) (lz : Bool) (g : Int) (h : ∀ x ∈ l, OkN x) (hf : FoldOk (exactI [[]]) (l.map ofI)) : OkN (.mk 4 s l mn mx lz g)
  | rep (s : List Nat) (l : List Nd) (mn mx : Int) (lz : Bool) (g : Int) (h1 : mn < 1) (h2 : ¬ mx = 0) (h3 : ¬ mx = 1) : OkN (.mk 6 s l mn mx lz g)
theorem nkey_mk (k : Int) (s0 s1 s2 s3 : Nat) (kv : Value) (l : List NoV) (mn mx : Int) (lz : Bool) (g : Int) : (NoV.mk k s0 s1 s2 s3 kv l mn mx lz g).key = .mk k [s0, s1, s2, s3] (l.map NoV.key) mn mx lz g := by simp [NoV.key, nkeys_map]
theorem ofI_cat (s : List Nat) (l : List Nd) (mn mx : Int) (lz : Bool) (g : Int) : ofI (.mk 4 s l mn mx lz g) = joinI (exactI [[]]) behindI (ofIs l) := by
  unfold ofI
  rw [if_neg (by omega), if_neg (by omega), if_pos rfl]
theorem of_ok : ∀ n : NoV, OkN n.key → OfT n
  | .mk k s0 s1 s2 s3 kv l mn mx lz g => fun h r hT hn => by
    have ih : ∀ x ∈ l, OkN x.key → OfT x := fun x _h => of_ok x
    rw [nkey_mk] at h ⊢
    have hn' := hn
    simp only [NoR, noL_iff] at hn'
    obtain ⟨hl, hr, _, _, _, _, _, hk1⟩ := hn'
    cases h with
    | set =>
      have e : ofI (.mk 3 [s0, s1, s2, s3] (l.map NoV.key) mn mx lz g) = setI [s0, s1, s2, s3] := by
        unfold ofI
        rw [if_neg (by omega), if_pos rfl]
      rw [e]
      exact ofSet_any r hT s0 s1 s2 s3 kv l mn mx lz g hn
    | cat _ _ _ _ _ _ hx hf =>
      have e : ofI (.mk 4 [s0, s1, s2, s3] (l.map NoV.key) mn mx lz g) = joinI (exactI [[]]) behindI (l.map fun x => ofI x.key) := by
        rw [ofI_cat, ofIs_map, List.map_map]; rfl
      rw [List.map_map] at hf
      rw [e]
      exact ofCat_any r hT s0 s1 s2 s3 kv l mn mx lz g hl hk1 hr (fun x hxm => ih x hxm (hx _ (List.mem_map_of_mem hxm))) hf
    | rep _ _ _ _ _ _ h1 h2 h3 =>
      have e : ofI (.mk 6 [s0, s1, s2, s3] (l.map NoV.key) mn mx lz g) = openI := by
        unfold ofI repeatI
        rw [if_neg (by omega), if_neg (by omega), if_neg (by omega), if_neg (by omega), if_pos rfl, if_neg h2, if_neg (by omega), if_neg (by omega), if_pos h1]
      rw [e]
      exact ofRep_any r hT s0 s1 s2 s3 kv l mn mx lz g h1 h2 h3
termination_by n => SizeOf.sizeOf n
decreasing_by
  have := List.sizeOf_lt_of_mem _h
  simp only [NoV.mk.sizeOf_spec]
  omega
/-! Literals fit. -/
theorem size_conj (G : List Tx) : sizeQ (conj G) ≤ 1 + sizeT G := by
  have := size_mk 3 1 G []
  simp only [sizeQs] at this
  exact this
theorem fit_ex {s : Tx} (h : s.length ≤ 1000) : FitI ⟨true, [s], [], [], conj []⟩ := ⟨by simp [sizeT]; omega, by simp [sizeT], by simp [sizeT], by have := size_conj []; simp only [sizeT] at this; dsimp only; omega, right_all⟩
theorem fit_op {a b : Tx} {G : List Tx} (ha : a.length ≤ 1000) (hb : b.length ≤ 1000) (hG : sizeT G ≤ 100000) (h3 : ∀ g ∈ G, g.length = 3) : FitI ⟨false, [], [a], [b], conj G⟩ := ⟨by simp [sizeT], by simp [sizeT]; omega, by simp [sizeT]; omega, by have := size_conj G; dsimp only; omega, right_conj h3⟩
theorem fit_lit {s : Tx} (h : s.length ≤ 1000) : FitI (litI s) := by
  have h1 := frontT_len 2 s
  have h2 := backT_len 2 s
  have h3 := size_parts3 s
  unfold litI
  split
  · exact fit_ex h
  · exact fit_op (by omega) (by omega) (by omega) partsT_len3
theorem sm_lit (s : Tx) : SmI (litI s) := by
  unfold litI
  split <;> exact ⟨by simp, by simp, by simp⟩
theorem fitB_lit {s : Tx} (_hs : s ≠ []) (c : UInt8) (h : s.length ≤ 900) : FitB (litI s) (exactI [[c]]) := by
  have hc : exactI [[c]] = litI [c] := by rw [exactI_one]; rfl
  have h1 := frontT_len 2 s
  have h2 := backT_len 2 s
  have h3 := size_parts3 s
  have hout : FitI (outI (litI s) (exactI [[c]])) ∧ sizeQ (outI (litI s) (exactI [[c]])).m ≤ 5000000 := by
    rw [exactI_one]
    by_cases h4 : s.length ≤ 40
    · have e : litI s = ⟨true, [s], [], [], conj []⟩ := by unfold litI; rw [if_pos h4]; rfl
      rw [e]
      have e2 : outI ⟨true, [s], [], [], conj []⟩ ⟨true, [[c]], [], [], conj []⟩ = ⟨true, [s ++ [c]], [], [], conj []⟩ := by
        show InfK.mk true (crossT [s] [[c]]) [] [] (andQ [conj [], conj [], conj []]) = _
        rw [cross_one, and3]; rfl
      rw [e2]
      exact ⟨fit_ex (by simp; omega), by have := size_conj []; simp only [sizeT] at this; dsimp only; omega⟩
    · have e : litI s = ⟨false, [], [frontT 2 s], [backT 2 s], conj (partsT s)⟩ := by unfold litI; rw [if_neg h4]
      rw [e]
      have e2 : outI ⟨false, [], [frontT 2 s], [backT 2 s], conj (partsT s)⟩ ⟨true, [[c]], [], [], conj []⟩ = ⟨false, [], [frontT 2 s], [backT 2 s ++ [c]], conj (partsT s)⟩ := by
        show InfK.mk false [] (rowT [frontT 2 s]) (crossT [backT 2 s] [[c]]) (andQ [conj (partsT s), conj [], conj []]) = _
        rw [cross_one, rowT_one, and3, List.append_nil, List.append_nil]
      rw [e2]
      exact ⟨fit_op (by omega) (by simp; omega) (by omega) partsT_len3, by have := size_conj (partsT s); dsimp only; omega⟩
  have hbe : sizeT (crossT (litI s).suf (exactI [[c]]).pre) ≤ 100000 := by
    have : (exactI [[c]]).pre = [] := rfl
    rw [this]
    have e : pairsT (litI s).suf [] = [] := by
      unfold pairsT
      simp
    unfold crossT
    rw [e]
    simp [sizeT, rowT, sortBy]
  exact ⟨fit_lit (by omega), hc ▸ fit_lit (by simp), sm_lit s, hc ▸ sm_lit [c], hout.1, hout.2, hbe, by
    have e1 : sizeQ (litI s).m ≤ 5000000 := by
      unfold litI
      split
      · simp [allQ, sizeQ, sizeT, sizeQs]
      · have := size_conj (partsT s); dsimp only; omega
    have e2 : sizeQ (exactI [[c]]).m ≤ 5 := by simp [exactI, allQ, sizeQ, sizeT, sizeQs]
    omega⟩
theorem fold_lit (s : Tx) (h : s.length ≤ 900) : FoldOk (exactI [[]]) ((s.map oneN).map ofI) := by
  have e : (s.map oneN).map ofI = s.map fun b => exactI [[b]] := by rw [List.map_map]; exact List.map_congr_left fun b _ => of_one b
  rw [e]
  intro j h1 h2
  rw [List.length_map] at h2
  have e1 : (s.map fun b => exactI [[b]]).getD j default = exactI [[s.getD j 0]] := by
    rw [List.getD_eq_getElem?_getD, List.getElem?_map, List.getElem?_eq_getElem h2, List.getD_eq_getElem?_getD, List.getElem?_eq_getElem h2]; rfl
  have e2 : joinI (exactI [[]]) behindI ((s.map fun b => exactI [[b]]).take j) = litI (s.take j) := by
    rw [← List.map_take]
    have hne : s.take j ≠ [] := fun e => by have := congrArg List.length e; rw [List.length_take, List.length_nil] at this; omega
    obtain ⟨b, t, ht⟩ := List.exists_cons_of_ne_nil hne
    rw [ht]
    show (t.map fun b => exactI [[b]]).foldl behindI (exactI [[b]]) = _
    rw [exactI_one, show (⟨true, [[b]], [], [], conj []⟩ : InfK) = litI [b] from rfl, lit_fold t [b] (by simp)]; rfl
  rw [e1, e2]
  refine fitB_lit (fun e => ?_) _ (by rw [List.length_take]; omega)
  have := congrArg List.length e
  rw [List.length_take, List.length_nil] at this
  omega
theorem ok_one (b : UInt8) : OkN (oneN b) := .set _ _ _ _ _ _
theorem ok_text (s : Tx) (h : s.length ≤ 900) : OkN (textN s) := .cat _ _ _ _ _ _ (fun x hx => by
  obtain ⟨b, _, rfl⟩ := List.mem_map.1 hx
  exact ok_one b) (fold_lit s h)
end Go.Proofs.YtdccjfabdfgomaaGreatDoor
