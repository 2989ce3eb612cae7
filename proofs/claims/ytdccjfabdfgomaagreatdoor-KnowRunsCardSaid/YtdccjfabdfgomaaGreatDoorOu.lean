
/- work.joined, cat, repeat (of what may be left out, or any times), know.Of at trees of sets, one behind the other: their contracts. -/
import Derived.Test.YtdccjfabdfgomaaGreatDoorOt
import Derived.Test.YtdccjfabdfgomaaGreatDoorMp
namespace Go.Proofs.YtdccjfabdfgomaaGreatDoor
open Go.RowKit Go.Maps Sx

def OfT (n : NoV) : Prop := ∀ r : Hp, TabR r → NoR r n → Tri Tryz.prog r 5 [.agg (encN n).toArray] [] fun w H => ∃ u : InfV, u.key = ofI n.key ∧ (encQ u.q).all one? = true ∧ w = .agg [.bool u.known, .slice u.ea u.ex.length u.ec, .slice u.pa u.pre.length u.pc, .slice u.sa u.suf.length u.sc, .int .i64 u.q.kind, u.q.gv, u.q.sv].toArray ∧ H = [OwnI u]
def FoldOk (o : InfK) (l : List InfK) : Prop := ∀ j, 1 ≤ j → j < l.length → FitB (joinI o behindI (l.take j)) (l.getD j default)
theorem joinI_snoc (o : InfK) : ∀ (l : List InfK) (x : InfK), l ≠ [] → joinI o behindI (l ++ [x]) = behindI (joinI o behindI l) x
  | [], _, h => absurd rfl h
  | y :: l, x, _ => by simp [joinI, List.foldl_append]
theorem behindO_any (r : Hp) (hT : TabR r) (i b : InfV) (oi : (encQ i.q).all one? = true) (ob : (encQ b.q).all one? = true) (hf : FitB i.key b.key) : Tri Tryz.prog r 28 [.agg [.bool i.known, .slice i.ea i.ex.length i.ec, .slice i.pa i.pre.length i.pc, .slice i.sa i.suf.length i.sc, .int .i64 i.q.kind, i.q.gv, i.q.sv].toArray, .agg [.bool b.known, .slice b.ea b.ex.length b.ec, .slice b.pa b.pre.length b.pc, .slice b.sa b.suf.length b.sc, .int .i64 b.q.kind, b.q.gv, b.q.sv].toArray] [OwnI i, OwnI b] fun w H => ∃ u : InfV, u.key = behindI i.key b.key ∧ (encQ u.q).all one? = true ∧ w = .agg [.bool u.known, .slice u.ea u.ex.length u.ec, .slice u.pa u.pre.length u.pc, .slice u.sa u.suf.length u.sc, .int .i64 u.q.kind, u.q.gv, u.q.sv].toArray ∧ H = [OwnI u] :=
  Tri.frz fun _r1 _g1 s1 t1 h1 => Tri.frz fun r2 _g2 s2 t2 h2 => behind_any r2 (hT.mono (Sx.sub.trans s1 s2)) i b ((ownI_read h1 t1).mono s2) (ownI_read h2 t2) oi ob hf
set_option maxRecDepth 10000 in
set_option maxHeartbeats 8000000 in
theorem joined_of (r : Hp) (hT : TabR r) (k : Int) (s0 s1 s2 s3 : Nat) (kv : Value) (l : List NoV) (mn mx : Int) (lz : Bool) (gr : Int) (hl : Els r 10 encN kv l) (_hk1 : one? kv = true) (hr : ∀ x ∈ l, NoR r x) (ih : ∀ x ∈ l, OfT x) (o : InfV) (oo : (encQ o.q).all one? = true) (hfo : FoldOk o.key (l.map fun x => ofI x.key)) : Tri Tryz.prog r 27 [.agg [.int .i64 k, .int .u64 s0, .int .u64 s1, .int .u64 s2, .int .u64 s3, kv, .int .i64 mn, .int .i64 mx, .bool lz, .int .i64 gr].toArray, .agg [.bool o.known, .slice o.ea o.ex.length o.ec, .slice o.pa o.pre.length o.pc, .slice o.sa o.suf.length o.sc, .int .i64 o.q.kind, o.q.gv, o.q.sv].toArray, .func (.func 28) #[] #[]] [OwnI o] fun w H => ∃ u : InfV, u.key = joinI o.key behindI (l.map fun x => ofI x.key) ∧ (encQ u.q).all one? = true ∧ w = .agg [.bool u.known, .slice u.ea u.ex.length u.ec, .slice u.pa u.pre.length u.pc, .slice u.sa u.suf.length u.sc, .int .i64 u.q.kind, u.q.gv, u.q.sv].toArray ∧ H = [OwnI u] := by
  have hlm := maxI hl.2.2.1
  refine Tri.free2 fun R HR => ?_
  refine fn_of_sw Tryz.func27 rfl _ rfl ?_; refine aen Tryz.ntmps27 ?_
  repeat' (first | ((with_reducible apply kx_box (v := .agg [.int .i64 k, .int .u64 s0, .int .u64 s1, .int .u64 s2, .int .u64 s3, kv, .int .i64 mn, .int .i64 mx, .bool lz, .int .i64 gr].toArray)); rfl; (exact qcl); intro b3; (refine apk ?_)) | ((with_reducible apply kx_box (v := .agg [.bool o.known, .slice o.ea o.ex.length o.ec, .slice o.pa o.pre.length o.pc, .slice o.sa o.suf.length o.sc, .int .i64 o.q.kind, o.q.gv, o.q.sv].toArray)); rfl; (exact qcl); intro b4; (refine apk ?_)) | ((with_reducible apply kx_alloc (E := 29)); exact ty_zero; (exact qcl); intro b6; (refine apk ?_)) | (exfalso; first | contradiction | omega) | refine aw0 ?_ | (refine ap2 ?_ ?_ <;> try intro h) | refine aw1 ?_ | (refine abx ?_; intro bb) | (refine abz ?_; intro bz) | (refine ahv ?_; intro v' hv') | (refine aac ?_; intro ac cc) | refine aw2 ?_ | (refine ap4 ?_ ?_ <;> try intro h) | apply True.intro)
  refine sw_loop (fun gm t H' => ∃ (j : Nat) (cur : InfV), gm = l.length + 1 - j ∧ (j ≤ l.length) ∧ (cur.key = joinI o.key behindI ((l.map fun x => ofI x.key).take j)) ∧ ((encQ cur.q).all one? = true) ∧ (∃ G, Takes [pt b4 (.cells [.bool cur.known, .slice cur.ea cur.ex.length cur.ec, .slice cur.pa cur.pre.length cur.pc, .slice cur.sa cur.suf.length cur.sc, .int .i64 cur.q.kind, cur.q.gv, cur.q.sv].toArray 29 (0, 0)), pt b6 (.cells [.bool false, .slice none 0 0, .slice none 0 0, .slice none 0 0, .int .i64 0, .slice none 0 0, .slice none 0 0].toArray 29 (0, 0)), OwnI cur] H' G) ∧ Sls t 31 [(2, .func (.func 28) #[] #[]), (4, .pointer (some ⟨b4, 0, none⟩)), (6, .pointer (some ⟨b6, 0, none⟩)), (13, kv), (14, .int .i64 l.length), (15, .int .i64 j)]) _ ⟨0, o, rfl, Nat.zero_le _, rfl, oo, ⟨_, atks⟩, asls⟩ ?_
  rintro gm t H' ⟨j, cur, rfl, hj, hck, hco, ⟨G, hp⟩, hs'⟩
  revert t; refine sls_all ?_; iterate 25 intro uu'
  refine sw_takeG hp ?_; clear hp
  by_cases hlt : j < l.length
  · obtain ⟨x, hx⟩ : ∃ x, l.getD j default = x := ⟨_, rfl⟩
    have hxm : x ∈ l := hx ▸ getD_memU hlt
    have hxr := hr x hxm
    have hof := ih x hxm r hT hxr
    have hml : (l.map fun x => ofI x.key).getD j default = ofI x.key := by
      rw [List.getD_eq_getElem?_getD, List.getElem?_map, List.getElem?_eq_getElem hlt, ← hx, List.getD_eq_getElem?_getD, List.getElem?_eq_getElem hlt]; rfl
    have htk : (l.map fun x => ofI x.key).take (j + 1) = (l.map fun x => ofI x.key).take j ++ [ofI x.key] := by
      rw [take_getD (d := default) (by rw [List.length_map]; exact hlt), hml]
    have hfj := hfo j
    rw [hml, ← hck, List.length_map] at hfj
    obtain ⟨xk, x0, x1, x2, x3, xv, xl, xmn, xmx, xlz, xg⟩ := x
    have hse : encN (.mk xk x0 x1 x2 x3 xv xl xmn xmx xlz xg) = [.int .i64 xk, .int .u64 x0, .int .u64 x1, .int .u64 x2, .int .u64 x3, xv, .int .i64 xmn, .int .i64 xmx, .bool xlz, .int .i64 xg] := rfl
    have hx1 : one? xv = true := by simp only [NoR] at hxr; exact hxr.2.2.2.2.2.2.2
    have hN : ([.int .i64 xk, .int .u64 x0, .int .u64 x1, .int .u64 x2, .int .u64 x3, xv, .int .i64 xmn, .int .i64 xmx, .bool xlz, .int .i64 xg] : List Value).all one? = true := by
      simp only [List.all_cons, List.all_nil, hx1, Bool.and_true]; rfl
    rw [hse] at hof
    obtain ⟨U, hU⟩ : ∃ U, ofI (NoV.key (.mk xk x0 x1 x2 x3 xv xl xmn xmx xlz xg)) = U := ⟨_, rfl⟩
    rw [hU] at hof htk hfj
    clear hxr hml hxm
    by_cases h0 : j = 0
    · have hnx : joinI o.key behindI ((l.map fun x => ofI x.key).take (j + 1)) = U := by rw [htk, h0]; rfl
      repeat' (first | (rw [hx]) | (rw [hse]) | ((with_reducible apply kx_alloc (E := 37)); exact ty_zero; (exact qcl); intro b8; (refine apk ?_)) | ((with_reducible apply kx_alloc (E := 29)); exact ty_zero; (exact qcl); intro b9; (refine apk ?_)) | (refine acl Tryz.func5 ?_; refine acr (hof) ?_; rintro v' H' ⟨u, hu1, hu2, rfl, rfl⟩; all_goals refine apl ?_) | ((with_reducible apply kx_storeN); exact ty_size; rfl; rfl; rfl; (exact qsw); exact hN; (exact qst); (refine apk ?_)) | ((with_reducible apply kx_storeN); exact ty_size; rfl; rfl; rfl; (exact qsw); exact encI_one hu2; (exact qst); (refine apk ?_)) | (exfalso; first | contradiction | omega) | refine aw0 ?_ | (refine ap2 ?_ ?_ <;> try intro h) | refine aw1 ?_ | (refine abx ?_; intro bb) | (refine abz ?_; intro bz) | (refine ahv ?_; intro v' hv') | (refine aac ?_; intro ac cc) | refine aw2 ?_ | (refine ap4 ?_ ?_ <;> try intro h) | apply True.intro)
      exact ⟨_, by omega, j + 1, u, rfl, by omega, by rw [hnx, hu1], hu2, ⟨_, atks⟩, asls⟩
    · have hnx : joinI o.key behindI ((l.map fun x => ofI x.key).take (j + 1)) = behindI cur.key U := by
        rw [htk, joinI_snoc _ _ _ (fun e => by have := congrArg List.length e; rw [List.length_take, List.length_map, List.length_nil] at this; omega), ← hck]
      have hfj2 := hfj (by omega) hlt
      have hbe := fun (u : InfV) (h1 : u.key = U) (h2 : (encQ u.q).all one? = true) => behindO_any r hT cur u hco h2 (by rw [h1]; exact hfj2)
      repeat' (first | (rw [hx]) | (rw [hse]) | ((with_reducible apply kx_alloc (E := 37)); exact ty_zero; (exact qcl); intro b8; (refine apk ?_)) | ((with_reducible apply kx_alloc (E := 29)); exact ty_zero; (exact qcl); intro b9; (refine apk ?_)) | (refine acl Tryz.func5 ?_; refine acr (hof) ?_; rintro v' H' ⟨u, hu1, hu2, rfl, rfl⟩; all_goals refine apl ?_) | ((with_reducible apply kx_storeN); exact ty_size; rfl; rfl; rfl; (exact qsw); exact hN; (exact qst); (refine apk ?_)) | ((with_reducible apply kx_storeN); exact ty_size; rfl; rfl; rfl; (exact qsw); exact encI_one hu2; (exact qst); (refine apk ?_)) | (refine acl Tryz.func28 ?_; refine acr (hbe u hu1 hu2) ?_; rintro v' H' ⟨v, hv1, hv2, rfl, rfl⟩; all_goals refine apl ?_) | ((with_reducible apply kx_storeN); exact ty_size; rfl; rfl; rfl; (exact qsw); exact encI_one hv2; (exact qst); (refine apk ?_)) | (exfalso; first | contradiction | omega) | refine aw0 ?_ | (refine ap2 ?_ ?_ <;> try intro h) | refine aw1 ?_ | (refine abx ?_; intro bb) | (refine abz ?_; intro bz) | (refine ahv ?_; intro v' hv') | (refine aac ?_; intro ac cc) | refine aw2 ?_ | (refine ap4 ?_ ?_ <;> try intro h) | apply True.intro)
      exact ⟨_, by omega, j + 1, v, rfl, by omega, by rw [hnx, hv1, hu1], hv2, ⟨_, atks⟩, asls⟩
  · obtain rfl : j = l.length := by omega
    rw [List.take_of_length_le (by rw [List.length_map]; omega)] at hck
    repeat' (first | ((with_reducible apply kx_storeN); exact ty_size; rfl; rfl; rfl; (exact qsw); exact encI_one hco; (exact qst); (refine apk ?_)) | (exfalso; first | contradiction | omega) | refine aw0 ?_ | (refine ap2 ?_ ?_ <;> try intro h) | refine aw1 ?_ | (refine abx ?_; intro bb) | (refine abz ?_; intro bz) | (refine ahv ?_; intro v' hv') | (refine aac ?_; intro ac cc) | refine aw2 ?_ | (refine ap4 ?_ ?_ <;> try intro h) | apply True.intro)
    ((with_reducible apply fp_ret); exact res_W rfl rfl (by (exact atk)) ty_agg ty_size rfl)
    exact HR.out _ _ _ [OwnI cur] (by (exact atks)) ⟨cur, hck, hco, rfl, rfl⟩
set_option maxRecDepth 10000 in
set_option maxHeartbeats 4000000 in
theorem cat_of (r : Hp) (hT : TabR r) (k : Int) (s0 s1 s2 s3 : Nat) (kv : Value) (l : List NoV) (mn mx : Int) (lz : Bool) (gr : Int) (hl : Els r 10 encN kv l) (hk1 : one? kv = true) (hr : ∀ x ∈ l, NoR r x) (ih : ∀ x ∈ l, OfT x) (hfo : FoldOk (exactI [[]]) (l.map fun x => ofI x.key)) : Tri Tryz.prog r 16 [.agg [.int .i64 k, .int .u64 s0, .int .u64 s1, .int .u64 s2, .int .u64 s3, kv, .int .i64 mn, .int .i64 mx, .bool lz, .int .i64 gr].toArray] [] fun w H => ∃ u : InfV, u.key = joinI (exactI [[]]) behindI (l.map fun x => ofI x.key) ∧ (encQ u.q).all one? = true ∧ w = .agg [.bool u.known, .slice u.ea u.ex.length u.ec, .slice u.pa u.pre.length u.pc, .slice u.sa u.suf.length u.sc, .int .i64 u.q.kind, u.q.gv, u.q.sv].toArray ∧ H = [OwnI u] := by
  have hno := none_any r hT (.mk k s0 s1 s2 s3 kv l mn mx lz gr)
  rw [show encN (.mk k s0 s1 s2 s3 kv l mn mx lz gr) = [.int .i64 k, .int .u64 s0, .int .u64 s1, .int .u64 s2, .int .u64 s3, kv, .int .i64 mn, .int .i64 mx, .bool lz, .int .i64 gr] from rfl] at hno
  have hjo := fun (o : InfV) (h1 : o.key = exactI [[]]) (h2 : (encQ o.q).all one? = true) => joined_of r hT k s0 s1 s2 s3 kv l mn mx lz gr hl hk1 hr ih o h2 (by rw [h1]; exact hfo)
  have hjo2 : ∀ (o : InfV), o.key = exactI [[]] → (encQ o.q).all one? = true → Tri Tryz.prog r 27 [.agg [.int .i64 k, .int .u64 s0, .int .u64 s1, .int .u64 s2, .int .u64 s3, kv, .int .i64 mn, .int .i64 mx, .bool lz, .int .i64 gr].toArray, .agg [.bool o.known, .slice o.ea o.ex.length o.ec, .slice o.pa o.pre.length o.pc, .slice o.sa o.suf.length o.sc, .int .i64 o.q.kind, o.q.gv, o.q.sv].toArray, .func (.func 28) #[] #[]] [OwnI o] fun w H => ∃ u : InfV, u.key = joinI (exactI [[]]) behindI (l.map fun x => ofI x.key) ∧ (encQ u.q).all one? = true ∧ w = .agg [.bool u.known, .slice u.ea u.ex.length u.ec, .slice u.pa u.pre.length u.pc, .slice u.sa u.suf.length u.sc, .int .i64 u.q.kind, u.q.gv, u.q.sv].toArray ∧ H = [OwnI u] := fun o h1 h2 => by
    have h := hjo o h1 h2
    rw [h1] at h
    exact h
  clear hjo
  refine Tri.free2 fun R HR => ?_
  refine fn_of_sw Tryz.func16 rfl _ rfl ?_; refine aen Tryz.ntmps16 ?_
  repeat' (first | ((with_reducible apply kx_box); rfl; (exact qcl); intro b1; (refine apk ?_)) | ((with_reducible apply kx_alloc (E := 29)); exact ty_zero; (exact qcl); intro b2; (refine apk ?_)) | ((with_reducible apply sw_draw (id := 1) 4 [(0, true), (1, true), (2, false), (3, false)] [(4, false)] [(b1, .cells [.int .i64 k, .int .u64 s0, .int .u64 s1, .int .u64 s2, .int .u64 s3, kv, .int .i64 mn, .int .i64 mx, .bool lz, .int .i64 gr].toArray 54 (0, 0))]); kernel_rfl; (exact atks); kernel_rfl; intro r' hl') | ((with_reducible apply pi_pur); rfl; (exact qwt); (with_reducible apply pu_ldP); rfl; (first | assumption | exact Lent.h1 hl' | exact Lent.h2 hl' | exact Lent.h3 hl'); (simp only [cut, List.drop_zero, List.take_succ_cons, List.take_zero]; rfl); rfl; (refine apk ?_)) | (refine acl Tryz.func14 ?_; refine acr (hno.up hl'.1) ?_; rintro v' H' ⟨o, ho1, ho2, rfl, rfl⟩; all_goals refine apl ?_) | (refine acl Tryz.func27 ?_; refine acr ((hjo2 o ho1 ho2).up hl'.1) ?_; rintro v' H' ⟨u, hu1, hu2, rfl, rfl⟩; all_goals refine apl ?_) | ((with_reducible apply kx_storeN); exact ty_size; rfl; rfl; rfl; (exact qsw); exact encI_one hu2; (exact qst); (refine apk ?_)) | (exfalso; first | contradiction | omega) | refine aw0 ?_ | (refine ap2 ?_ ?_ <;> try intro h) | refine aw1 ?_ | (refine abx ?_; intro bb) | (refine abz ?_; intro bz) | (refine ahv ?_; intro v' hv') | (refine aac ?_; intro ac cc) | refine aw2 ?_ | (refine ap4 ?_ ?_ <;> try intro h) | apply True.intro)
  ((with_reducible apply fp_ret); exact res_W rfl rfl (by (exact atk)) ty_agg ty_size rfl)
  exact HR.out _ _ _ [OwnI u] (by (exact atks)) ⟨u, hu1, hu2, rfl, rfl⟩
set_option maxRecDepth 10000 in
set_option maxHeartbeats 4000000 in
theorem repeat_of (r : Hp) (hT : TabR r) (k : Int) (s0 s1 s2 s3 : Nat) (kv : Value) (mn mx : Int) (lz : Bool) (gr : Int) (h1 : mn < 1) (h2 : ¬ mx = 0) (h3 : ¬ mx = 1) : Tri Tryz.prog r 18 [.agg [.int .i64 k, .int .u64 s0, .int .u64 s1, .int .u64 s2, .int .u64 s3, kv, .int .i64 mn, .int .i64 mx, .bool lz, .int .i64 gr].toArray] [] fun w H => ∃ u : InfV, u.key = openI ∧ (encQ u.q).all one? = true ∧ w = .agg [.bool u.known, .slice u.ea u.ex.length u.ec, .slice u.pa u.pre.length u.pc, .slice u.sa u.suf.length u.sc, .int .i64 u.q.kind, u.q.gv, u.q.sv].toArray ∧ H = [OwnI u] := by
  have hop := open_any r hT
  have h4 : ¬ mn = 1 := by omega
  refine Tri.free2 fun R HR => ?_
  refine fn_of_sw Tryz.func18 rfl _ rfl ?_; refine aen Tryz.ntmps18 ?_
  repeat' (first | ((with_reducible apply kx_box); rfl; (exact qcl); intro b1; (refine apk ?_)) | ((with_reducible apply kx_alloc (E := 29)); exact ty_zero; (exact qcl); intro b2; (refine apk ?_)) | (refine acl Tryz.func26 ?_; refine acr (hop) ?_; rintro v' H' ⟨u, hu1, hu2, rfl, rfl⟩; all_goals refine apl ?_) | ((with_reducible apply kx_storeN); exact ty_size; rfl; rfl; rfl; (exact qsw); exact encI_one hu2; (exact qst); (refine apk ?_)) | (exfalso; first | contradiction | omega) | refine aw0 ?_ | (refine ap2 ?_ ?_ <;> try intro h) | refine aw1 ?_ | (refine abx ?_; intro bb) | (refine abz ?_; intro bz) | (refine ahv ?_; intro v' hv') | (refine aac ?_; intro ac cc) | refine aw2 ?_ | (refine ap4 ?_ ?_ <;> try intro h) | apply True.intro)
  ((with_reducible apply fp_ret); exact res_W rfl rfl (by (exact atk)) ty_agg ty_size rfl)
  exact HR.out _ _ _ [OwnI u] (by (exact atks)) ⟨u, hu1, hu2, rfl, rfl⟩
end Go.Proofs.YtdccjfabdfgomaaGreatDoor
