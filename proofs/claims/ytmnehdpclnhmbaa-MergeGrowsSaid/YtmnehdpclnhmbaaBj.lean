
/- bytes.Clone; batch.Apply: their contracts. -/
import Derived.Test.YtmnehdpclnhmbaaBi
namespace Go.Proofs.Ytmnehdpclnhmbaa
open Go.RowKit Sx

/-- Two results, the first in a cell. -/
theorem Sx.res_ct {P : Program} {r : Hp} {t : List Value} {H : List Ch} {fn : Func} {d e : Tmp} {T : TypeId} {a : Addr} {v u : Value} (hr : fn.results = #[.cell d T, .tmp e]) (hT : aggB P T = some false) (hv : t[d]? = some (.pointer (some a))) (hc : Rd1 r H a v) (hu : t[e]? = some u) : Res P r fn t H (.tuple #[v, u]) := by
  intro w g e' e'' al
  have h1 := hc w g e'' e' al
  have h2 : t.toArray.getD d undef = .pointer (some a) := by simp [hv, Array.getD_eq_getD_getElem?]
  simp [results, hr, asAddr, loadVar, Sem.run_bind, run_isAgg hT, Result.andThen, run_load h1, hv, hu, Array.getD_eq_getD_getElem?]
set_option maxRecDepth 10000 in
set_option maxHeartbeats 1000000 in
theorem bclone_any (r : Hp) (v : Value) (l : List UInt8) (hv : U8S r v l) (hl : l.length ≤ 100000000000000) : Tri Try.prog r 15 [v] [] fun w H => ∃ a c, w = .slice a l.length c ∧ H = [U8R w l] := by
  have hn := fun (a : Option Addr) (n c : Nat) (w : World) => Lib.run_eql_slice_nil (P := Try.prog) w 40 _ a n c 0 0 Try.underlying40
  refine Tri.free2 fun R HR => ?_
  obtain ⟨a, c, rfl⟩ := hv.form
  cases a with
  | none =>
    have hx : l = [] := by
      rcases hv.2.2 with ⟨_, h0⟩ | ⟨b, off, cap, c, E, fz, h, _⟩
      · exact List.length_eq_zero_iff.1 h0
      · cases h
    subst hx
    refine fn_of_sw Try.func15 rfl _ rfl ?_; refine aen Try.ntmps15 ?_
    refine sw_put (A := U8R (.slice none 0 0) []) (RowC.nil _ _) ?_
    repeat' (first | ((with_reducible refine swo_kit ?_ ?_); rfl; intro w ds K' hK; gi_big_op; (with_reducible refine hK _ ?_); clear hK K' ds w) | refine aw0 ?_ | (refine ap2 ?_ ?_ <;> try intro h) | refine aw1 ?_ | (refine abx ?_; intro bb) | (refine abz ?_; intro bz) | (refine ahv ?_; intro v' hv') | (refine aac ?_; intro ac cc) | refine aw2 ?_ | (refine ap4 ?_ ?_ <;> try intro h) | apply True.intro)
    ((with_reducible apply fp_ret); exact res_1 rfl rfl)
    exact HR.out _ _ _ [U8R (.slice none 0 0) []] (by (exact atks)) ⟨_, _, rfl, rfl⟩
  | some ad =>
    refine fn_of_sw Try.func15 rfl _ rfl ?_; refine aen Try.ntmps15 ?_
    repeat' (first | ((with_reducible apply kx_bs0R); exact ty_el; exact ty_inf; intro bz; (refine apk ?_)) | ((with_reducible refine swo_isApp ?_); (with_reducible apply kx_appS (news := u8s l)); exact ty_el; exact ty_inf; rfl; rfl; rfl; rfl; exact hv; (exact atk); exact u8s_one l; (unfold maxLen; omega); (omega); intro a' c'; refine apm ?_) | ((with_reducible refine swo_kit ?_ ?_); rfl; intro w ds K' hK; gi_big_op; (with_reducible refine hK _ ?_); clear hK K' ds w) | refine aw0 ?_ | (refine ap2 ?_ ?_ <;> try intro h) | refine aw1 ?_ | (refine abx ?_; intro bb) | (refine abz ?_; intro bz) | (refine ahv ?_; intro v' hv') | (refine aac ?_; intro ac cc) | refine aw2 ?_ | (refine ap4 ?_ ?_ <;> try intro h) | apply True.intro)
    simp only [Nat.zero_add]
    ((with_reducible apply fp_ret); exact res_1 rfl rfl)
    exact HR.out _ _ _ [U8R _ _] (by (exact atks)) ⟨a', c', rfl, rfl⟩
theorem behindF_any (r : Hp) (bm : Nat) (vl : Value) (h2 : one? vl = true) : Tri Try.prog r 14 [.pointer (some ⟨bm, 0, none⟩), vl] [] fun w H => ∃ Bl Bm, w = .func (.func 37) #[] #[.pointer (some ⟨Bl, 0, none⟩), .pointer (some ⟨Bm, 0, none⟩)] ∧ H = [lbox Bl vl, mbox Bm bm] := by
  refine Tri.free2 fun R HR => ?_
  refine fn_of_sw Try.func14 rfl _ rfl ?_; refine aen Try.ntmps14 ?_
  repeat' (first | ((with_reducible apply kx_box); rfl; (exact cells_one h2); intro b2; (refine apk ?_)) | ((with_reducible apply kx_box); rfl; (exact qcl); intro b1; (refine apk ?_)) | refine aw0 ?_ | (refine ap2 ?_ ?_ <;> try intro h) | refine aw1 ?_ | (refine abx ?_; intro bb) | (refine abz ?_; intro bz) | (refine ahv ?_; intro v' hv') | (refine aac ?_; intro ac cc) | refine aw2 ?_ | (refine ap4 ?_ ?_ <;> try intro h) | apply True.intro)
  ((with_reducible apply fp_ret); exact res_1 rfl rfl)
  exact HR.out _ _ _ [lbox _ _, mbox _ _] (by (exact atks)) ⟨_, _, rfl, rfl⟩
theorem mem_behindV : ∀ {cs : List ChV} {fs : List FileV} {x : FileV}, x ∈ behindV fs cs → x ∈ fs ∨ ∃ c ∈ cs, x = putF c
  | [], _, _, h => .inl h
  | c :: cs, fs, x, h => by
    unfold behindV at h
    rcases List.mem_append.1 h with h | h
    · exact .inl (List.mem_filter.1 h).1
    · rcases List.mem_append.1 h with h | h
      · split at h
        · cases h
        · exact .inr ⟨c, by simp, List.mem_singleton.1 h⟩
      · rcases mem_behindV h with h | ⟨d, hd, e⟩
        · exact .inl (List.mem_filter.1 h).1
        · exact .inr ⟨d, List.mem_cons_of_mem _ hd, e⟩
theorem len_two (fs : List FileV) (p : Pa) : (fs.filter fun f => decide (f.path < p)).length + (fs.filter fun f => decide (p < f.path)).length ≤ fs.length := by
  induction fs with
  | nil => simp
  | cons f fs ih =>
    rw [List.filter_cons, List.filter_cons]
    by_cases h1 : f.path < p
    · have h2 : ¬ p < f.path := fun h => pa_irr _ (pa_tr h h1)
      simp only [h1, h2, decide_true, decide_false, if_true, Bool.false_eq_true, if_false, List.length_cons]
      omega
    · by_cases h2 : p < f.path
      · simp only [h1, h2, decide_true, decide_false, if_true, Bool.false_eq_true, if_false, List.length_cons]
        omega
      · simp only [h1, h2, decide_false, Bool.false_eq_true, if_false, List.length_cons]
        omega
theorem len_behindV : ∀ (cs : List ChV) (fs : List FileV), (behindV fs cs).length ≤ fs.length + cs.length
  | [], fs => by simp [behindV]
  | c :: cs, fs => by
    have ih := len_behindV cs (fs.filter fun f => decide (c.path < f.path))
    have h2 := len_two fs c.path
    unfold behindV
    rw [List.length_append, List.length_append, List.length_cons]
    split
    · simp only [List.length_nil]; omega
    · simp only [List.length_singleton]; omega
set_option maxRecDepth 10000 in
set_option maxHeartbeats 8000000 in
theorem apply_any (r : Hp) (v vl : Value) (fs : List FileV) (cs : List ChV) (hv : Files r v fs) (hl : Chs r vl cs) (hn : fs.length ≤ 1000000) (hm : cs.length ≤ 1000000) (hfp : ∀ f ∈ fs, f.path.length ≤ 1000000 ∧ f.data.length ≤ 10000000) (hcp : ∀ c ∈ cs, c.path.length ≤ 1000000 ∧ c.data.length ≤ 10000000) :
    Tri Try.prog r 6 [v, vl] [] fun w H => match applyK (fs.map FileV.key) (cs.map chK) with
      | (some ks, _) => ∃ a c, w = .tuple #[.slice a ks.length c, .int .i64 0] ∧ H = [FilC (.slice a ks.length c) ks]
      | (none, e) => w = .tuple #[.slice none 0 0, .int .i64 e] ∧ H = [] := by
  refine Tri.free2 fun R HR => ?_
  have hfo := filesOk_any r v fs hv fun f hf => (hfp f hf).1
  rw [filesOk_key] at hfo
  have hbr := bright_any r vl cs hl hm fun c hc => (hcp c hc).1
  have hcl := cloneFi_any r v fs hv.1 (encF_oneR hv.2) hn
  unfold applyK at HR
  obtain ⟨q1, h1⟩ : ∃ q, filesOkK (fs.map FileV.key) = q := ⟨_, rfl⟩
  obtain ⟨q2, h2⟩ : ∃ q, batchOk (cs.map chK) = q := ⟨_, rfl⟩
  rw [h1] at hfo HR
  rw [h2] at hbr HR
  obtain ⟨hve, hvb⟩ := hv
  by_cases hq : q1 = true ∧ q2 = true
  · obtain ⟨rfl, rfl⟩ := hq
    have hris := (filesOkK_iff.1 h1).2.2
    have hrc := batchOk_ris h2
    obtain ⟨X, hX⟩ : ∃ X, behindV fs cs = X := ⟨_, rfl⟩
    have hXk := behindV_key cs fs
    have hXb : ∀ x ∈ X, U8S r x.val x.data ∧ x.data.length ≤ 10000000 := fun x hx => by
      rw [← hX] at hx
      rcases mem_behindV hx with h | ⟨c, hc, rfl⟩
      · exact ⟨hvb x h, (hfp x h).2⟩
      · exact ⟨hl.2 c hc, (hcp c hc).2⟩
    have hXl := len_behindV cs fs
    rw [hX] at hXk hXl
    rw [← hXk] at HR
    have hl1 := hl.1.one
    have hsq := fun r' (h : sub r r') Bl Bm bm v' (h1 : Els r' 2 encF v' fs) => behind_seq r' Bl Bm bm v' vl fs cs h1 (hl.mono h) hris hn
    rw [hX] at hsq
    simp only [Bool.and_self, if_true, List.length_map] at HR
    refine fn_of_sw Try.func6 rfl _ rfl ?_; refine aen Try.ntmps6 ?_
    repeat' (first | ((with_reducible apply kx_alloc (E := 27)); exact ty_zero; (exact qcl); intro b4; (refine apk ?_)) | ((with_reducible apply kx_alloc (E := 51)); exact ty_zero; (exact qcl); intro b6; (refine apk ?_)) | (refine acl Try.func11 ?_; refine acr (hfo) ?_; rintro v' H' ⟨rfl, rfl⟩; all_goals refine apl ?_) | (refine acl Try.func12 ?_; refine acr (hbr) ?_; rintro v' H' ⟨rfl, rfl⟩; all_goals refine apl ?_) | (refine acl Try.func13 ?_; refine acr (hcl) ?_; rintro v' H' ⟨a1, c1, rfl, rfl⟩; all_goals refine apl ?_) | (refine acl Try.func14 ?_; refine acr (behindF_any r _ vl hl1) ?_; rintro v' H' ⟨Bl, Bm, rfl, rfl⟩; all_goals refine apl ?_) | (exfalso; first | contradiction | omega) | refine aw0 ?_ | (refine ap2 ?_ ?_ <;> try intro h) | refine aw1 ?_ | (refine abx ?_; intro bb) | (refine abz ?_; intro bz) | (refine ahv ?_; intro v' hv') | (refine aac ?_; intro ac cc) | refine aw2 ?_ | (refine ap4 ?_ ?_ <;> try intro h) | apply True.intro)
    refine sw_put (A := RowC 42 2 (.slice none 0 0) 0 []) (RowC.nil _ _) ?_
    refine sw_put (A := ByC []) rfl ?_
    refine sw_lendQ (A := RowC 42 2 (.slice a1 fs.length c1) fs.length (fs.flatMap encF)) (by (exact atk)) fun r2 g2 hr2 hg2 hA2 => ?_
    refine sw_range rfl (goesOf Try.func37 (by kernel_rfl) rfl) (hsq r2 hr2 Bl Bm b6 _ ⟨fun _ => rfl, hA2.sl hg2⟩) (by (exact atks)) (fun _ => rfl)
      (fun j H => ∃ (W : List FileV) (a : Option Addr) (c : Nat), W.map FileV.key = (X.take j).map FileV.key ∧ ∃ G, Takes [pt b4 (.cells [.slice a W.length c].toArray 27 (0, 0)), RowC 42 2 (.slice a W.length c) W.length (W.flatMap encF), ByC (W.map bytF)] H G)
      (fun _ _ _ => False) ?_ ?_ ?_ ?_
    · exact ⟨[], none, 0, rfl, _, by (exact atks)⟩
    · rintro kk i hi H ⟨W, a, c, hW, G, hp⟩
      have hWl : W.length = i := by have h := congrArg List.length hW; rw [List.length_map, List.length_map, List.length_take] at h; omega
      obtain ⟨⟨fp, fv, fd⟩, hx⟩ : ∃ x, X[i] = x := ⟨_, rfl⟩
      have hxm : X[i] ∈ X := List.getElem_mem hi
      have htk : X.take (i + 1) = X.take i ++ [⟨fp, fv, fd⟩] := by rw [List.take_succ_eq_append_getElem hi, hx]
      rw [hx] at hxm ⊢
      have hfb := hXb _ hxm
      dsimp only at hfb
      have hbc := fun r' (h : sub r r') => bclone_any r' fv fd (hfb.1.mono h) (by omega)
      have hfv1 := hfb.1
      refine sw_takeG hp ?_
      clear hp
      rw [pars1, show encF ⟨fp, fv, fd⟩ = [.string (bs fp), fv] from rfl]
      (refine apk ?_)
      repeat' (first | ((with_reducible apply swo_joinA (As := [ByC (W.map bytF), U8R (.slice a7 fd.length c7) fd]) (D := ByC ((W ++ [(⟨fp, .slice a7 fd.length c7, fd⟩ : FileV)]).map bytF))); ((exact atks)); (exact fun h e => by rw [List.map_append]; exact byC_snoc h e)) | ((with_reducible apply kx_alloc (E := 42)); exact ty_zero; (exact qcl); intro b9; (refine apk ?_)) | (with_reducible refine then2_mk ?_) | ((with_reducible apply sw_draw (id := 6) 9 [(0, true), (1, true), (2, true), (3, true), (4, true), (5, false), (6, true), (7, false), (8, false)] [(9, false)] [(b4, .cells [.slice a W.length c].toArray 27 (0, 0)), (b9, .cells [.string (bs fp), fv].toArray 42 (0, 0))]); kernel_rfl; (exact atks); kernel_rfl; intro r' hl') | (refine acl Try.func15 ?_; refine acr (hbc _ (hr2.trans hl'.1)) ?_; rintro v' H' ⟨a7, c7, rfl, rfl⟩; all_goals refine apl ?_) | (first | ((with_reducible apply kx_bs1); exact ty_el; exact ty_inf; rfl; rfl; rfl; intro bz; (refine apk ?_)) | ((with_reducible apply kx_bsN); exact ty_el; exact ty_inf; rfl; rfl; rfl; intro bz; (refine apk ?_))) | ((with_reducible refine swo_isApp ?_); (with_reducible apply kx_lend [(bz, .cells [.string (bs fp), .slice a7 fd.length c7].toArray 42 (0, 0))]); (exact atks); intro r5 hl5; (with_reducible apply kx_appS (news := [.string (bs fp), .slice a7 fd.length c7])); exact ty_el; exact ty_inf; rfl; rfl; rfl; rfl; exact (Sl.lit (n := 1) (Lent.h1 hl5) rfl (by simp [maxLen])); (exact atk); rfl; (unfold maxLen; omega); (omega); intro a' c'; refine apm ?_) | (exfalso; first | contradiction | omega) | refine aw0 ?_ | (refine ap2 ?_ ?_ <;> try intro h) | refine aw1 ?_ | (refine abx ?_; intro bb) | (refine abz ?_; intro bz) | (refine ahv ?_; intro v' hv') | (refine aac ?_; intro ac cc) | refine aw2 ?_ | (refine ap4 ?_ ?_ <;> try intro h) | apply True.intro)
      refine ⟨W ++ [⟨fp, .slice a7 fd.length c7, fd⟩], a', c', by rw [htk, List.map_append, List.map_append, hW]; rfl, ?_⟩
      apply Exists.intro
      rw [List.length_append, List.length_singleton, List.flatMap_append, show [(⟨fp, .slice a7 fd.length c7, fd⟩ : FileV)].flatMap encF = [.string (bs fp), .slice a7 fd.length c7] from rfl]
      (exact atks)
    · rintro H ⟨W, a, c, hW, G, hp⟩
      rw [List.take_length] at hW
      have hWl : W.length = X.length := by have h := congrArg List.length hW; rw [List.length_map, List.length_map] at h; exact h
      have hp' := Takes.cons (Take.here (A := RowC 42 2 (.slice a1 fs.length c1) fs.length (fs.flatMap encF)) (H := H)) hp
      refine sw_takeG hp' ?_
      clear hp hp'
      refine sw_joinA (As := [RowC 42 2 (.slice a W.length c) W.length (W.flatMap encF), ByC (W.map bytF)]) (D := FilC (.slice a W.length c) (X.map FileV.key)) (by (exact atks)) (fun h e => ⟨W, hW, e⟩) ?_
      repeat' (first | (exfalso; first | contradiction | omega) | refine aw0 ?_ | (refine ap2 ?_ ?_ <;> try intro h) | refine aw1 ?_ | (refine abx ?_; intro bb) | (refine abz ?_; intro bz) | (refine ahv ?_; intro v' hv') | (refine aac ?_; intro ac cc) | refine aw2 ?_ | (refine ap4 ?_ ?_ <;> try intro h) | apply True.intro)
      · have h4 : ¬ X.length ≤ 4000 := by omega
        simp only [h4, if_false] at HR
        ((with_reducible apply fp_ret); exact res_ct rfl ty_agg rfl (by (exact ard)) rfl)
        exact HR.out _ _ _ [] Takes.all ⟨rfl, rfl⟩
      · have h4 : X.length ≤ 4000 := by omega
        simp only [h4, if_true] at HR
        ((with_reducible apply fp_ret); exact res_ct rfl ty_agg rfl (by (exact ard)) rfl)
        exact HR.out _ _ _ [FilC (.slice a W.length c) _] (by (exact atks)) ⟨a, c, by rw [List.length_map, hWl], by rw [List.length_map, hWl]⟩
    · rintro c i H hi h
      exact h.elim
  · have hq' : (q1 && q2) = false := by
      rw [← Bool.not_eq_true, Bool.and_eq_true]; exact hq
    rw [hq'] at HR
    simp only [Bool.false_eq_true, if_false] at HR
    cases q1
    · refine fn_of_sw Try.func6 rfl _ rfl ?_; refine aen Try.ntmps6 ?_
      repeat' (first | ((with_reducible apply kx_alloc (E := 27)); exact ty_zero; (exact qcl); intro b4; (refine apk ?_)) | (refine acl Try.func11 ?_; refine acr (hfo) ?_; rintro v' H' ⟨rfl, rfl⟩; all_goals refine apl ?_) | (exfalso; first | contradiction | omega) | refine aw0 ?_ | (refine ap2 ?_ ?_ <;> try intro h) | refine aw1 ?_ | (refine abx ?_; intro bb) | (refine abz ?_; intro bz) | (refine ahv ?_; intro v' hv') | (refine aac ?_; intro ac cc) | refine aw2 ?_ | (refine ap4 ?_ ?_ <;> try intro h) | apply True.intro)
      ((with_reducible apply fp_ret); exact res_ct rfl ty_agg rfl (by (exact ard)) rfl)
      exact HR.out _ _ _ [] Takes.all ⟨rfl, rfl⟩
    · obtain rfl : q2 = false := by simpa using hq'
      refine fn_of_sw Try.func6 rfl _ rfl ?_; refine aen Try.ntmps6 ?_
      repeat' (first | ((with_reducible apply kx_alloc (E := 27)); exact ty_zero; (exact qcl); intro b4; (refine apk ?_)) | (refine acl Try.func11 ?_; refine acr (hfo) ?_; rintro v' H' ⟨rfl, rfl⟩; all_goals refine apl ?_) | (refine acl Try.func12 ?_; refine acr (hbr) ?_; rintro v' H' ⟨rfl, rfl⟩; all_goals refine apl ?_) | (exfalso; first | contradiction | omega) | refine aw0 ?_ | (refine ap2 ?_ ?_ <;> try intro h) | refine aw1 ?_ | (refine abx ?_; intro bb) | (refine abz ?_; intro bz) | (refine ahv ?_; intro v' hv') | (refine aac ?_; intro ac cc) | refine aw2 ?_ | (refine ap4 ?_ ?_ <;> try intro h) | apply True.intro)
      ((with_reducible apply fp_ret); exact res_ct rfl ty_agg rfl (by (exact ard)) rfl)
      exact HR.out _ _ _ [] Takes.all ⟨rfl, rfl⟩
end Go.Proofs.Ytmnehdpclnhmbaa
