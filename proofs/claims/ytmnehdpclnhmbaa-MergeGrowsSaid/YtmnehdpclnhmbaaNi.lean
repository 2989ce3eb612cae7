
/- merge.Live: its contract. -/
import Derived.Test.YtmnehdpclnhmbaaNh
import Derived.Test.YtmnehdpclnhmbaaWd
namespace Go.Proofs.Ytmnehdpclnhmbaa
open Go.RowKit Sx
theorem byC_perm {W Z : List FileV} (h : W.Perm Z) {g : Hp} (e : ByC (W.map bytF) g) : ByC (Z.map bytF) g := all_perm ((h.map bytF).map _) e
theorem sort_uniq {gs W : List FileV} {l : List KeyM} (hW : W.map FileV.key = l) (hn : (l.map (·.1)).Nodup) (hp : gs.Perm W) (hq : gs.Pairwise (fun x y => x.path < y.path)) : gs.map FileV.key = sortK l := by
  refine ris_ext ?_ (ris_sort hn) fun x => ?_
  · exact List.pairwise_map.2 hq
  · rw [mem_sortK, ← hW]
    exact (hp.map FileV.key).mem_iff
theorem filC_nil : FilC (.slice none 0 0) [] emp := ⟨[], rfl, emp, emp, emp_dj, un_emp.symm, RowC.nil _ _, emp, emp, emp_dj, un_emp.symm, rfl, rfl⟩
theorem filC_perm {gs W : List FileV} {a : Option Addr} {c : Nat} (hp : gs.Perm W) (h : Hp) (e : all [RowC 42 2 (.slice a W.length c) W.length (gs.flatMap encF), ByC (W.map bytF)] h) : FilC (.slice a W.length c) (gs.map FileV.key) h := by
  obtain ⟨g1, g2, dd, rfl, h1, g3, g4, dd2, rfl, h3, rfl⟩ := e
  refine ⟨gs, rfl, g1, _, dd, rfl, ?_, g3, emp, dd2, rfl, byC_perm hp.symm h3, rfl⟩
  rw [hp.length_eq]
  exact h1
set_option maxRecDepth 10000 in
set_option maxHeartbeats 8000000 in
theorem mlive_any (r : Hp) (v : Value) (X : List PartM) (hv : PartsR r v X) (hn : X.length ≤ 1000000) (hp : ∀ x ∈ X, ∀ f ∈ x.files, f.path.length ≤ 1000000) (hd : ∀ x ∈ X, ∀ f ∈ x.files, f.data.length ≤ 100000000) : Tri Try.prog r 9 [v] [] fun w H => ∃ a c, w = .slice a (liveK (X.map PartM.key)).length c ∧ H = [FilC w (liveK (X.map PartM.key))] := by
  refine Tri.free2 fun R HR => ?_
  have hmr := mright_any r v X hv hn hp
  obtain ⟨hve, hvb⟩ := hv
  cases ho : partsOk (X.map PartM.key)
  · rw [ho] at hmr
    have hk : liveK (X.map PartM.key) = [] := by unfold liveK; rw [ho]; rfl
    rw [hk] at HR
    refine fn_of_sw Try.func9 rfl _ rfl ?_; refine aen Try.ntmps9 ?_
    refine sw_put (A := FilC (.slice none 0 0) []) filC_nil ?_
    repeat' (first | ((with_reducible apply kx_alloc (E := 27)); exact ty_zero; (exact qcl); intro b2; (refine apk ?_)) | (refine acl Try.func16 ?_; refine acr (hmr) ?_; rintro v' H' ⟨rfl, rfl⟩; all_goals refine apl ?_) | (exfalso; first | contradiction | omega) | refine aw0 ?_ | (refine ap2 ?_ ?_ <;> try intro h) | refine aw1 ?_ | (refine abx ?_; intro bb) | (refine abz ?_; intro bz) | (refine ahv ?_; intro v' hv') | (refine aac ?_; intro ac cc) | refine aw2 ?_ | (refine ap4 ?_ ?_ <;> try intro h) | apply True.intro)
    ((with_reducible apply fp_ret); exact res_c rfl ty_agg rfl (by (exact ard)))
    exact HR.out _ _ _ [FilC (.slice none 0 0) []] (by (exact atks)) ⟨none, 0, rfl, rfl⟩
  · have hk : liveK (X.map PartM.key) = sortK (livP (X.map PartM.key)) := by unfold liveK; rw [ho]; rfl
    rw [hk] at HR
    rw [ho] at hmr
    have hall := partsOk_iff.1 ho
    have hKl : (livX X).length ≤ 4000 := by
      have h1 := congrArg List.length (livX_key X)
      rw [List.length_map] at h1
      rw [h1]
      exact hall.2.2
    refine fn_of_sw Try.func9 rfl _ rfl ?_; refine aen Try.ntmps9 ?_
    refine sw_put (A := RowC 42 2 (.slice none 0 0) 0 []) (RowC.nil _ _) ?_
    refine sw_put (A := ByC []) rfl ?_
    repeat' (first | ((with_reducible apply kx_alloc (E := 27)); exact ty_zero; (exact qcl); intro b2; (refine apk ?_)) | (refine acl Try.func16 ?_; refine acr (hmr) ?_; rintro v' H' ⟨rfl, rfl⟩; all_goals refine apl ?_) | (exfalso; first | contradiction | omega) | refine aw0 ?_ | (refine ap2 ?_ ?_ <;> try intro h) | refine aw1 ?_ | (refine abx ?_; intro bb) | (refine abz ?_; intro bz) | (refine ahv ?_; intro v' hv') | (refine aac ?_; intro ac cc) | refine aw2 ?_ | (refine ap4 ?_ ?_ <;> try intro h) | apply True.intro)
    refine sw_loop (fun gm t H' => ∃ (k : Nat) (W : List FileV) (a : Option Addr) (c : Nat) (u6 u20 : Value), gm = X.length + 1 - k ∧ (k ≤ X.length) ∧ (W.map FileV.key = (livX (X.take k)).map FileV.key) ∧ (∀ x ∈ W, x.val.oneCell' = true) ∧ (∃ G, Takes [pt b2 (.cells [.slice a W.length c].toArray 27 (0, 0)), RowC 42 2 (.slice a W.length c) W.length (W.flatMap encF), ByC (W.map bytF)] H' G) ∧ Sls t 34 [(2, .pointer (some ⟨b2, 0, none⟩)), (6, u6), (10, v), (11, .int .i64 X.length), (12, .int .i64 k), (20, u20)]) _ ⟨0, [], none, 0, _, _, rfl, Nat.zero_le _, rfl, (fun x hx => by cases hx), ⟨_, atks⟩, asls⟩ ?_
    rintro gm t H' ⟨k, W, a, c, u6, u20, rfl, hk, hW, hO, ⟨G, hp⟩, hs'⟩
    revert t; refine sls_all ?_; iterate 28 intro uu'
    refine sw_takeG hp ?_; clear hp
    by_cases hlt : k < X.length
    · obtain ⟨x, hx⟩ : ∃ x, X.getD k default = x := ⟨_, rfl⟩
      have hxm : x ∈ X := hx ▸ getDm hlt
      obtain ⟨hxf, hxd⟩ := hvb x hxm
      have hxp := hp x hxm
      have hxl := hd x hxm
      have htk : X.take (k + 1) = X.take k ++ [x] := by rw [take_getD (d := default) hlt, hx]
      have hdr : X = X.take k ++ x :: X.drop (k + 1) := by
        conv => lhs; rw [← List.take_append_drop k X, List.drop_eq_getElem_cons hlt]
        rw [show X[k] = x by rw [← hx, List.getD_eq_getElem?_getD, List.getElem?_eq_getElem hlt]; rfl]
      have hone : oneOk x.key = true := hall.1 x.key (List.mem_map_of_mem hxm)
      have hxe : encMp x = [x.fv, x.dv] := rfl
      have hf1 := hxf.1.one
      have hd1 := hxd.one
      have hf2 := hxf.1
      obtain ⟨V, hV⟩ : ∃ V, livV x.dead 0 x.files = V := ⟨_, rfl⟩
      have hWV : W.length + V.length ≤ 4000 := by
        have h1 := congrArg List.length hW
        rw [List.length_map, List.length_map] at h1
        rw [hdr] at hKl
        unfold livX at hKl h1
        rw [List.flatMap_append, List.flatMap_cons, List.length_append, List.length_append, List.length_map, hV] at hKl
        omega
      have hLn : livX (X.take (k + 1)) = livX (X.take k) ++ V.map (·.2) := by rw [htk, ← hV]; unfold livX; rw [List.flatMap_append, List.flatMap_cons, List.flatMap_nil, List.append_nil]
      have hVm := fun y (hy : y ∈ V) => livV_mem (d := x.dead) (fs := x.files) (k := 0) (x := y) (by rw [hV]; exact hy)
      have hsq := fun bw bq => living_seq r bw bq x.dead.length x.fv x.dv x.files x.dead hxf
      rw [hV] at hsq
      repeat' (first | (rw [hx, hxe]) | ((with_reducible apply kx_alloc (E := 36)); exact ty_zero; (exact qcl); intro b6; (refine apk ?_)) | (refine acl Try.func20 ?_; refine acr (mof_any r x.fv x.dv x.dead hxd x.files hxf.1 (one_dead' hone).1) ?_; rintro v' H' ⟨bq, rfl, rfl⟩; all_goals refine apl ?_) | (refine acl Try.func21 ?_; refine acr (mliving_any r x.fv x.dv x.files x.dead bq hxf.1 hxd) ?_; rintro v' H' ⟨bw, rfl, rfl⟩; all_goals refine apl ?_) | (exfalso; first | contradiction | omega) | refine aw0 ?_ | (refine ap2 ?_ ?_ <;> try intro h) | refine aw1 ?_ | (refine abx ?_; intro bb) | (refine abz ?_; intro bz) | (refine ahv ?_; intro v' hv') | (refine aac ?_; intro ac cc) | refine aw2 ?_ | (refine ap4 ?_ ?_ <;> try intro h) | apply True.intro)
      refine sw_range rfl (goesOf Try.func47 (by kernel_rfl) rfl) (hsq bw bq) (by (exact atks)) (fun _ => rfl)
        (fun j H => ∃ (Y : List FileV) (a : Option Addr) (c : Nat), Y.map FileV.key = (livX (X.take k)).map FileV.key ++ (V.take j).map (fun y => y.2.key) ∧ (∀ x ∈ Y, x.val.oneCell' = true) ∧ ∃ G, Takes [pt b2 (.cells [.slice a Y.length c].toArray 27 (0, 0)), RowC 42 2 (.slice a Y.length c) Y.length (Y.flatMap encF), ByC (Y.map bytF)] H G)
        (fun _ _ _ => False) ?_ ?_ ?_ ?_
      · exact ⟨W, a, c, by simpa using hW, hO, _, by (exact atks)⟩
      · rintro kk i hi H ⟨Y, a, c, hY, hYo, G, hp6⟩
        obtain ⟨⟨q, fp, fv, fd⟩, hxi⟩ : ∃ y, V[i] = y := ⟨_, rfl⟩
        have hym : V[i] ∈ V := List.getElem_mem hi
        have htv : V.take (i + 1) = V.take i ++ [(q, ⟨fp, fv, fd⟩)] := by rw [List.take_succ_eq_append_getElem hi, hxi]
        rw [hxi] at hym
        have hfm := hVm _ hym
        have hfb := hxf.2 _ hfm
        have hfp := hxp _ hfm
        have hfl := hxl _ hfm
        dsimp only at hfb hfp hfl
        have hYl : Y.length ≤ 4000 := by
          have h1 := congrArg List.length hY
          have h2 := congrArg List.length hW
          rw [List.length_map, List.length_append, List.length_map, List.length_map, List.length_take] at h1
          rw [List.length_map, List.length_map] at h2
          omega
        have hbc := fun r' (h : sub r r') => clone_any r' fv fd (hfb.mono h) (by omega)
        have hfv1 := hfb
        refine sw_takeG hp6 ?_
        clear hp6
        rw [hxi, show tellN (q, ⟨fp, fv, fd⟩) = [.int .i64 q, .agg [.string (bs fp), fv].toArray] from rfl]
        refine sw_pars2 ?_
        (refine apk ?_)
        refine then2_mk ?_
        (refine apk ?_)
        repeat' (first | ((with_reducible apply swo_joinA (As := [ByC (Y.map bytF), U8R (.slice a7 fd.length c7) fd]) (D := ByC ((Y ++ [(⟨fp, .slice a7 fd.length c7, fd⟩ : FileV)]).map bytF))); ((exact atks)); (exact fun h e => by rw [List.map_append]; exact byC_snoc h e)) | ((with_reducible apply kx_alloc (E := 42)); exact ty_zero; (exact qcl); intro b9; (refine apk ?_)) | ((with_reducible apply sw_draw (id := 8) 9 [(0, true), (1, true), (2, true), (3, true), (4, true), (5, false), (6, true), (7, false), (8, false)] [(9, false)] [(b2, .cells [.slice a Y.length c].toArray 27 (0, 0)), (b9, .cells [.string (bs fp), fv].toArray 42 (0, 0))]); kernel_rfl; (exact atks); kernel_rfl; intro r' hl') | (refine acl Try.func22 ?_; refine acr (hbc _ hl'.1) ?_; rintro v' H' ⟨a7, c7, rfl, rfl⟩; all_goals refine apl ?_) | (first | ((with_reducible apply kx_bs1); exact ty_el; exact ty_inf; rfl; rfl; rfl; intro bz; (refine apk ?_)) | ((with_reducible apply kx_bsN); exact ty_el; exact ty_inf; rfl; rfl; rfl; intro bz; (refine apk ?_))) | ((with_reducible refine swo_isApp ?_); (with_reducible apply kx_lend [(bz, .cells [.string (bs fp), .slice a7 fd.length c7].toArray 42 (0, 0))]); (exact atks); intro r5 hl5; (with_reducible apply kx_appS (news := [.string (bs fp), .slice a7 fd.length c7])); exact ty_el; exact ty_inf; rfl; rfl; rfl; rfl; exact (Sl.lit (n := 1) (Lent.h1 hl5) rfl (by simp [maxLen])); (exact atk); rfl; (unfold maxLen; omega); (omega); intro a' c'; refine apm ?_) | (exfalso; first | contradiction | omega) | refine aw0 ?_ | (refine ap2 ?_ ?_ <;> try intro h) | refine aw1 ?_ | (refine abx ?_; intro bb) | (refine abz ?_; intro bz) | (refine ahv ?_; intro v' hv') | (refine aac ?_; intro ac cc) | refine aw2 ?_ | (refine ap4 ?_ ?_ <;> try intro h) | apply True.intro)
        refine ⟨Y ++ [⟨fp, .slice a7 fd.length c7, fd⟩], a', c', by rw [htv, List.map_append, List.map_append, ← List.append_assoc, hY]; rfl, fun x hx => (by
          rcases List.mem_append.1 hx with hx | hx
          · exact hYo x hx
          · obtain rfl := List.mem_singleton.1 hx
            rfl), ?_⟩
        apply Exists.intro
        rw [List.length_append, List.length_singleton, List.flatMap_append, show [(⟨fp, .slice a7 fd.length c7, fd⟩ : FileV)].flatMap encF = [.string (bs fp), .slice a7 fd.length c7] from rfl]
        (exact atks)
      · rintro H ⟨Y, a, c, hY, hYo, G, hp6⟩
        rw [List.take_length] at hY
        refine sw_takeG hp6 ?_
        clear hp6
        repeat' (first | (exfalso; first | contradiction | omega) | refine aw0 ?_ | (refine ap2 ?_ ?_ <;> try intro h) | refine aw1 ?_ | (refine abx ?_; intro bb) | (refine abz ?_; intro bz) | (refine ahv ?_; intro v' hv') | (refine aac ?_; intro ac cc) | refine aw2 ?_ | (refine ap4 ?_ ?_ <;> try intro h) | apply True.intro)
        exact ⟨_, by omega, k + 1, Y, a, c, _, _, rfl, by omega, by rw [hLn, List.map_append, List.map_map]; exact hY, hYo, ⟨_, atks⟩, asls⟩
      · rintro c i H hi h
        exact h.elim
    · obtain rfl : k = X.length := by omega
      rw [List.take_length, livX_key] at hW
      have hWl : W.length ≤ 4000 := by
        have h1 := congrArg List.length hW
        rw [List.length_map] at h1
        rw [h1]
        exact hall.2.2
      have hWn : (W.map (·.path)).Nodup := by
        have h1 := hall.2.1
        rw [← hW, List.map_map] at h1
        exact h1
      have hso := sortF_tri r a c W hO hWn (by omega)
      repeat' (first | (refine acl Try.func23 ?_; refine acr (hso) ?_; rintro v' H' ⟨gs, hgp, hgq, rfl⟩; all_goals refine apl ?_) | ((with_reducible apply swo_joinA (As := [RowC 42 2 (.slice a W.length c) W.length (gs.flatMap encF), ByC (W.map bytF)]) (D := FilC (.slice a W.length c) (gs.map FileV.key))); ((exact atks)); (exact fun h e => filC_perm hgp h e)) | (exfalso; first | contradiction | omega) | refine aw0 ?_ | (refine ap2 ?_ ?_ <;> try intro h) | refine aw1 ?_ | (refine abx ?_; intro bb) | (refine abz ?_; intro bz) | (refine ahv ?_; intro v' hv') | (refine aac ?_; intro ac cc) | refine aw2 ?_ | (refine ap4 ?_ ?_ <;> try intro h) | apply True.intro)
      have hgk := sort_uniq hW hall.2.1 hgp hgq
      have hgl : gs.length = W.length := hgp.length_eq
      rw [← hgk, List.length_map, hgl] at HR
      ((with_reducible apply fp_ret); exact res_c rfl ty_agg rfl (by (exact ard)))
      exact HR.out _ _ _ [FilC (.slice a W.length c) (gs.map FileV.key)] (by (exact atks)) ⟨a, c, rfl, rfl⟩
end Go.Proofs.Ytmnehdpclnhmbaa
