
/- batch.Diff: its contract (the walk). -/
import Derived.Test.YtmnehdpclnhmbaaBk2
namespace Go.Proofs.Ytmnehdpclnhmbaa
open Go.RowKit Sx

set_option maxRecDepth 10000 in
set_option maxHeartbeats 8000000 in
theorem diff_any (r : Hp) (v w : Value) (fs gs : List FileV) (hv : Files r v fs) (hw : Files r w gs) (hn : fs.length ≤ 1000000) (hm : gs.length ≤ 1000000) (hfp : ∀ f ∈ fs, f.path.length ≤ 1000000 ∧ f.data.length ≤ 10000000) (hgp : ∀ f ∈ gs, f.path.length ≤ 1000000 ∧ f.data.length ≤ 10000000) :
    Tri Try.prog r 17 [v, w] [] fun u H => if filesOkK (fs.map FileV.key) && filesOkK (gs.map FileV.key) then ∃ a c, u = .tuple #[.slice a (diffK (fs.map FileV.key) (gs.map FileV.key)).length c, .int .i64 0] ∧ H = [ChC (.slice a (diffK (fs.map FileV.key) (gs.map FileV.key)).length c) (diffK (fs.map FileV.key) (gs.map FileV.key))]
      else u = .tuple #[.slice none 0 0, .int .i64 2] ∧ H = [] := by
  refine Tri.free2 fun R HR => ?_
  have hfo := filesOk_any r v fs hv fun f hf => (hfp f hf).1
  have hgo := filesOk_any r w gs hw fun f hf => (hgp f hf).1
  rw [filesOk_key] at hfo hgo
  have hcl := cloneFi_any r v fs hv.1 (encF_oneR hv.2) hn
  obtain ⟨q1, h1⟩ : ∃ q, filesOkK (fs.map FileV.key) = q := ⟨_, rfl⟩
  obtain ⟨q2, h2⟩ : ∃ q, filesOkK (gs.map FileV.key) = q := ⟨_, rfl⟩
  rw [h1] at hfo HR
  rw [h2] at hgo HR
  obtain ⟨hve, hvb⟩ := hv
  obtain ⟨hwe, hwb⟩ := hw
  by_cases hq : q1 = true ∧ q2 = true
  · obtain ⟨rfl, rfl⟩ := hq
    have hris := (filesOkK_iff.1 h1).2.2
    have hDl := len_diffK (gs.map FileV.key) (fs.map FileV.key)
    rw [List.length_map, List.length_map] at hDl
    obtain ⟨D, hD⟩ : ∃ D, diffK (fs.map FileV.key) (gs.map FileV.key) = D := ⟨_, rfl⟩
    rw [hD] at hDl HR
    simp only [Bool.and_self, if_true] at HR
    refine fn_of_sw Try.func17 rfl _ rfl ?_; refine aen Try.ntmps17 ?_
    repeat' (first | ((with_reducible apply kx_alloc (E := 25)); exact ty_zero; (exact qcl); intro b4; (refine apk ?_)) | ((with_reducible apply kx_alloc (E := 51)); exact ty_zero; (exact qcl); intro b6; (refine apk ?_)) | (refine acl Try.func11 ?_; refine acr (hfo) ?_; rintro v' H' ⟨rfl, rfl⟩; all_goals refine apl ?_) | refine aw0 ?_ | (refine ap2 ?_ ?_ <;> try intro h) | refine aw1 ?_ | (refine abx ?_; intro bb) | (refine abz ?_; intro bz) | (refine ahv ?_; intro v' hv') | (refine aac ?_; intro ac cc) | refine aw2 ?_ | (refine ap4 ?_ ?_ <;> try intro h) | apply True.intro)
    repeat' (first | ((with_reducible apply kx_alloc (E := 25)); exact ty_zero; (exact qcl); intro b4; (refine apk ?_)) | ((with_reducible apply kx_alloc (E := 51)); exact ty_zero; (exact qcl); intro b6; (refine apk ?_)) | (refine acl Try.func11 ?_; refine acr (hgo) ?_; rintro v' H' ⟨rfl, rfl⟩; all_goals refine apl ?_) | (refine acl Try.func13 ?_; refine acr (hcl) ?_; rintro v' H' ⟨a1, c1, rfl, rfl⟩; all_goals refine apl ?_) | ((with_reducible apply sw_freezeT (A := RowC 42 2 (.slice a1 fs.length c1) fs.length (fs.flatMap encF))); (with_reducible (exact atk)); intro r2 g2 hr2 hg2 hA2; have hwe2 := hwe.mono hr2) | (exfalso; first | contradiction | omega) | refine aw0 ?_ | (refine ap2 ?_ ?_ <;> try intro h) | refine aw1 ?_ | (refine abx ?_; intro bb) | (refine abz ?_; intro bz) | (refine ahv ?_; intro v' hv') | (refine aac ?_; intro ac cc) | refine aw2 ?_ | (refine ap4 ?_ ?_ <;> try intro h) | apply True.intro)
    have hE2 : Els r2 2 encF (.slice a1 fs.length c1) fs := ⟨fun _ => rfl, hA2.sl hg2⟩
    clear hA2 hg2
    refine sw_put (A := RowC 44 3 (.slice none 0 0) 0 []) (RowC.nil _ _) ?_
    refine sw_put (A := ByC []) rfl ?_
    refine sw_loop (fun gm t H' => ∃ (m : Nat) (W : List ChV) (a : Option Addr) (c : Nat) (vm : Value) (fs' : List FileV), gm = gs.length + 1 - m ∧ (m ≤ gs.length) ∧ (W.map chK ++ diffK (fs'.map FileV.key) ((gs.drop m).map FileV.key) = D) ∧ (Els r2 2 encF vm fs') ∧ (RisK (fs'.map FileV.key)) ∧ (∀ x ∈ fs', x ∈ fs) ∧ (fs'.length ≤ fs.length) ∧ (∃ G, Takes [mrow_ b6 vm, pt b4 (.cells [.slice a W.length c].toArray 25 (0, 0)), RowC 44 3 (.slice a W.length c) W.length (W.flatMap encCh), ByC (W.map bytCh)] H' G) ∧ Sls t 73 [(4, .pointer (some ⟨b4, 0, none⟩)), (6, .pointer (some ⟨b6, 0, none⟩)), (7, .func (.func 42) #[] #[.pointer (some ⟨b4, 0, none⟩)]), (24, w), (25, .int .i64 gs.length), (26, .int .i64 m)]) _ ⟨0, [], none, 0, .slice a1 fs.length c1, fs, rfl, Nat.zero_le _, hD, hE2, hris, (fun x hx => hx), Nat.le_refl _, ⟨_, atks⟩, asls⟩ ?_
    rintro gm t H' ⟨m, W, a, c, vm, fs', rfl, hml, hW, hE, hR, hsub, hfl, ⟨G, hp⟩, hs'⟩
    revert t; refine sls_all ?_; iterate 67 intro uu'
    refine sw_takeG hp ?_; clear hp
    have hWl : W.length + (diffK (fs'.map FileV.key) ((gs.drop m).map FileV.key)).length ≤ 2000000 := by
      have h := congrArg List.length hW
      rw [List.length_append, List.length_map] at h
      omega
    by_cases hlt : m < gs.length
    · obtain ⟨g, hg⟩ : ∃ g, gs.getD m default = g := ⟨_, rfl⟩
      have hgm : g ∈ gs := hg ▸ getDm hlt
      have hgb := hwb g hgm
      have hgl := (hgp g hgm).2
      have hdm : (gs.drop m).map FileV.key = g.key :: (gs.drop (m + 1)).map FileV.key := by rw [drop1 hlt, hg]; rfl
      obtain ⟨p, gv, gd⟩ := g
      dsimp only at hgb hgl
      have hge : encF ⟨p, gv, gd⟩ = [.string (bs p), gv] := rfl
      have hn' : fs'.length ≤ 1000000 := by omega
      have hun := until_any r2 b6 51 vm fs' p hE hR hn'
      repeat' (first | (rw [hg, hge]) | ((with_reducible apply kx_alloc (E := 42)); exact ty_zero; (exact qcl); intro b9; (refine apk ?_)) | (refine acl Try.func40 ?_; refine acr (hun) ?_; rintro v' H' ⟨q, hq, rfl, rfl⟩; all_goals refine apl ?_) | (exfalso; first | contradiction | omega) | refine aw0 ?_ | (refine ap2 ?_ ?_ <;> try intro h) | refine aw1 ?_ | (refine abx ?_; intro bb) | (refine abz ?_; intro bz) | (refine ahv ?_; intro v' hv') | (refine aac ?_; intro ac cc) | refine aw2 ?_ | (refine ap4 ?_ ?_ <;> try intro h) | apply True.intro)
      have hqle := hq.1
      have hlA : (fs'.take q).length = q := by rw [List.length_take]; omega
      have hA : Els r2 2 encF (cutV vm 0 q 2) (fs'.take q) := by
        have := hE.cut (i := 0) (j := q) (Nat.zero_le _) hqle
        simpa using this
      have hB : Els r2 2 encF (cutV vm q fs'.length 2) (fs'.drop q) := by
        have := hE.cut (i := q) (j := fs'.length) hqle (Nat.le_refl _)
        rwa [List.take_of_length_le (by rw [List.length_drop]; omega)] at this
      have hlB : (fs'.drop q).length = fs'.length - q := List.length_drop
      have htk := take_any r2 b4 (cutV vm 0 q 2) (fs'.take q) a W.length c (W.flatMap encCh) hA (fun f hf => (hvb f (hsub f (List.mem_of_mem_take hf))).mono hr2) (by omega)
      rw [hlA] at htk
      have hstep := diff_step (g := ⟨p, gv, gd⟩) hR hq ((gs.drop (m + 1)).map FileV.key)
      rw [hdm, hstep, ← List.append_assoc, ← List.map_append] at hW
      obtain ⟨W1, hW1⟩ : ∃ W1, W ++ (fs'.take q).map takeV = W1 := ⟨_, rfl⟩
      have hW1l : W1.length = W.length + q := by rw [← hW1, List.length_append, List.length_map, hlA]
      have hW1f : W1.flatMap encCh = W.flatMap encCh ++ (fs'.take q).flatMap encTk := by rw [← hW1, List.flatMap_append, List.flatMap_map]; rfl
      have hW1b : ∀ h, ByC (W.map bytCh) h → ByC (W1.map bytCh) h := fun h e => by
        rw [← hW1, List.map_append, List.map_map]
        exact byC_takes e (fs'.take q)
      rw [hW1] at hW
      rw [← hW1f, ← hW1l] at htk
      have hsub2 : ∀ k, ∀ x ∈ fs'.drop k, x ∈ fs := fun k x hx => hsub x (List.mem_of_mem_drop hx)
      have hRd : ∀ k, RisK ((fs'.drop k).map FileV.key) := fun k => by rw [List.map_drop]; exact List.Pairwise.sublist (List.drop_sublist _ _) hR
      have hld : ∀ k, (fs'.drop k).length ≤ fs.length := fun k => by rw [List.length_drop]; omega
      have hbc := fun r' (h : sub r2 r') => bclone_any r' gv gd ((hgb.mono hr2).mono h) (by omega)
      have hgv1 := hgb.one
      by_cases hf : q < fs'.length ∧ (fs'.getD q default).path = p
      · rw [decide_eq_true hf]
        have hx := hsub _ (getDm hf.1)
        have hq0 : (fs'.drop q).getD (Int.toNat 0) default = fs'.getD q default := by rw [drop1 hf.1]; rfl
        obtain ⟨x, hxe⟩ : ∃ x, fs'.getD q default = x := ⟨_, rfl⟩
        rw [hxe] at hx hq0
        have hxb := (hvb x hx).mono hr2
        have hxl := (hfp x hx).2
        have hbe := fun r' (h : sub r2 r') => bequal_any r' x.val gv x.data gd (hxb.mono h) ((hgb.mono hr2).mono h) (by omega) (by omega)
        have hC : Els r2 2 encF (cutV (cutV vm q fs'.length 2) 1 (fs'.drop q).length 2) (fs'.drop (q + 1)) := by
          have := hB.cut (i := 1) (j := (fs'.drop q).length) (by omega) (Nat.le_refl _)
          rwa [List.take_of_length_le (by rw [List.length_drop]; omega), List.drop_drop] at this
        by_cases he : x.data = gd
        · rw [decide_eq_true he] at hbe
          rw [if_pos ⟨hf, by rw [hxe]; exact he⟩, if_pos hf] at hW
          repeat' (first | ((with_reducible apply kx_call (f := 42) (cap := [.pointer (some ⟨b4, 0, none⟩)])); exact goesOf Try.func42 (by kernel_rfl) rfl; rfl; rfl; exact (htk); (exact atks); rintro v' H' ⟨a2, c2, rfl⟩; all_goals ((try simp only [List.cons_append, List.nil_append]); (refine apk ?_))) | ((with_reducible apply sw_imp (A := ByC (W.map bytCh)) (B := ByC (W1.map bytCh))); (with_reducible (exact atk)); exact hW1b) | ((with_reducible apply sw_draw (id := 10) 13 [(0, true), (1, true), (2, true), (3, true), (4, true), (5, true), (6, true), (7, true), (8, true), (9, true), (10, false), (11, true), (12, true)] [] [(b6, .cells [cutV vm q fs'.length 2].toArray 51 (0, 0)), (b9, .cells [.string (bs p), gv].toArray 42 (0, 0))]); kernel_rfl; (exact atks); kernel_rfl; intro r' hl') | (rw [hq0]) | (refine acl Try.func43 ?_; refine acr (hbe _ hl'.1) ?_; rintro v' H' ⟨rfl, rfl⟩; all_goals refine apl ?_) | ((with_reducible apply swo_pur); (with_reducible apply pu_sl); rfl; (exact qasl); (exact qbd); (omega); (refine apk ?_)) | ((with_reducible apply kx_store); exact ty_size; rfl; rfl; (exact qsw); (exact qon); (exact qss); (refine apk ?_)) | (exfalso; first | contradiction | omega) | refine aw0 ?_ | (refine ap2 ?_ ?_ <;> try intro h) | refine aw1 ?_ | (refine abx ?_; intro bb) | (refine abz ?_; intro bz) | (refine ahv ?_; intro v' hv') | (refine aac ?_; intro ac cc) | refine aw2 ?_ | (refine ap4 ?_ ?_ <;> try intro h) | apply True.intro)
          exact ⟨_, by omega, m + 1, W1, a2, c2, _, fs'.drop (q + 1), rfl, by omega, hW, hC, hRd _, hsub2 _, hld _, ⟨_, atks⟩, asls⟩
        · rw [decide_eq_false he] at hbe
          rw [if_neg (fun h => he (by have := h.2; rwa [hxe] at this)), if_pos hf] at hW
          have hWx : W1.length ≤ 2000000 := by
            have h := congrArg List.length hW
            rw [List.length_append, List.length_map] at h
            omega
          repeat' (first | ((with_reducible apply kx_call (f := 42) (cap := [.pointer (some ⟨b4, 0, none⟩)])); exact goesOf Try.func42 (by kernel_rfl) rfl; rfl; rfl; exact (htk); (exact atks); rintro v' H' ⟨a2, c2, rfl⟩; all_goals ((try simp only [List.cons_append, List.nil_append]); (refine apk ?_))) | ((with_reducible apply sw_imp (A := ByC (W.map bytCh)) (B := ByC (W1.map bytCh))); (with_reducible (exact atk)); exact hW1b) | ((with_reducible apply sw_draw (id := 10) 13 [(0, true), (1, true), (2, true), (3, true), (4, true), (5, true), (6, true), (7, true), (8, true), (9, true), (10, false), (11, true), (12, true)] [] [(b6, .cells [cutV vm q fs'.length 2].toArray 51 (0, 0)), (b9, .cells [.string (bs p), gv].toArray 42 (0, 0))]); kernel_rfl; (exact atks); kernel_rfl; intro r' hl') | (rw [hq0]) | (refine acl Try.func43 ?_; refine acr (hbe _ hl'.1) ?_; rintro v' H' ⟨rfl, rfl⟩; all_goals refine apl ?_) | ((with_reducible apply swo_joinA (As := [ByC (W1.map bytCh), U8R (.slice a7 gd.length c7) gd]) (D := ByC ((W1 ++ [(⟨p, false, .slice a7 gd.length c7, gd⟩ : ChV)]).map bytCh))); ((exact atks)); (exact fun h e => by rw [List.map_append]; exact byC_snoc h e)) | ((with_reducible apply sw_draw (id := 11) 9 [(0, true), (1, true), (2, true), (3, true), (4, true), (5, false), (6, true), (7, false), (8, false)] [(9, false)] [(b4, .cells [.slice a2 W1.length c2].toArray 25 (0, 0)), (b9, .cells [.string (bs p), gv].toArray 42 (0, 0))]); kernel_rfl; (exact atks); kernel_rfl; intro r' hl') | (refine acl Try.func15 ?_; refine acr (hbc _ hl'.1) ?_; rintro v' H' ⟨a7, c7, rfl, rfl⟩; all_goals refine apl ?_) | (first | ((with_reducible apply kx_bs1); exact ty_el; exact ty_inf; rfl; rfl; rfl; intro bz; (refine apk ?_)) | ((with_reducible apply kx_bsN); exact ty_el; exact ty_inf; rfl; rfl; rfl; intro bz; (refine apk ?_))) | ((with_reducible refine swo_isApp ?_); (with_reducible apply kx_lend [(bz, .cells [.string (bs p), .bool false, .slice a7 gd.length c7].toArray 44 (0, 0))]); (exact atks); intro r5 hl5; (with_reducible apply kx_appS (news := [.string (bs p), .bool false, .slice a7 gd.length c7])); exact ty_el; exact ty_inf; rfl; rfl; rfl; rfl; exact (Sl.lit (n := 1) (Lent.h1 hl5) rfl (by simp [maxLen])); (exact atk); rfl; (unfold maxLen; omega); (omega); intro a' c'; refine apm ?_) | ((with_reducible apply swo_pur); (with_reducible apply pu_sl); rfl; (exact qasl); (exact qbd); (omega); (refine apk ?_)) | ((with_reducible apply kx_store); exact ty_size; rfl; rfl; (exact qsw); (exact qon); (exact qss); (refine apk ?_)) | (exfalso; first | contradiction | omega) | refine aw0 ?_ | (refine ap2 ?_ ?_ <;> try intro h) | refine aw1 ?_ | (refine abx ?_; intro bb) | (refine abz ?_; intro bz) | (refine ahv ?_; intro v' hv') | (refine aac ?_; intro ac cc) | refine aw2 ?_ | (refine ap4 ?_ ?_ <;> try intro h) | apply True.intro)
          exact ⟨_, by omega, m + 1, W1 ++ [⟨p, false, .slice a7 gd.length c7, gd⟩], a', c', _, fs'.drop (q + 1), rfl, by omega, by rw [List.map_append, List.append_assoc]; exact hW, hC, hRd _, hsub2 _, hld _, ⟨_, by rw [List.length_append, List.length_singleton, List.flatMap_append, show [(⟨p, false, .slice a7 gd.length c7, gd⟩ : ChV)].flatMap encCh = [.string (bs p), .bool false, .slice a7 gd.length c7] from rfl]; exact atks⟩, asls⟩
      · rw [decide_eq_false hf]
        rw [if_neg (fun h => hf h.1), if_neg hf] at hW
        have hWx : W1.length ≤ 2000000 := by
          have h := congrArg List.length hW
          rw [List.length_append, List.length_map] at h
          omega
        repeat' (first | ((with_reducible apply kx_call (f := 42) (cap := [.pointer (some ⟨b4, 0, none⟩)])); exact goesOf Try.func42 (by kernel_rfl) rfl; rfl; rfl; exact (htk); (exact atks); rintro v' H' ⟨a2, c2, rfl⟩; all_goals ((try simp only [List.cons_append, List.nil_append]); (refine apk ?_))) | ((with_reducible apply sw_imp (A := ByC (W.map bytCh)) (B := ByC (W1.map bytCh))); (with_reducible (exact atk)); exact hW1b) | ((with_reducible apply sw_draw (id := 10) 13 [(0, true), (1, true), (2, true), (3, true), (4, true), (5, true), (6, true), (7, true), (8, true), (9, true), (10, false), (11, true), (12, true)] [] [(b6, .cells [cutV vm q fs'.length 2].toArray 51 (0, 0)), (b9, .cells [.string (bs p), gv].toArray 42 (0, 0))]); kernel_rfl; (exact atks); kernel_rfl; intro r' hl') | ((with_reducible apply swo_joinA (As := [ByC (W1.map bytCh), U8R (.slice a7 gd.length c7) gd]) (D := ByC ((W1 ++ [(⟨p, false, .slice a7 gd.length c7, gd⟩ : ChV)]).map bytCh))); ((exact atks)); (exact fun h e => by rw [List.map_append]; exact byC_snoc h e)) | ((with_reducible apply sw_draw (id := 11) 9 [(0, true), (1, true), (2, true), (3, true), (4, true), (5, false), (6, true), (7, false), (8, false)] [(9, false)] [(b4, .cells [.slice a2 W1.length c2].toArray 25 (0, 0)), (b9, .cells [.string (bs p), gv].toArray 42 (0, 0))]); kernel_rfl; (exact atks); kernel_rfl; intro r' hl') | (refine acl Try.func15 ?_; refine acr (hbc _ hl'.1) ?_; rintro v' H' ⟨a7, c7, rfl, rfl⟩; all_goals refine apl ?_) | (first | ((with_reducible apply kx_bs1); exact ty_el; exact ty_inf; rfl; rfl; rfl; intro bz; (refine apk ?_)) | ((with_reducible apply kx_bsN); exact ty_el; exact ty_inf; rfl; rfl; rfl; intro bz; (refine apk ?_))) | ((with_reducible refine swo_isApp ?_); (with_reducible apply kx_lend [(bz, .cells [.string (bs p), .bool false, .slice a7 gd.length c7].toArray 44 (0, 0))]); (exact atks); intro r5 hl5; (with_reducible apply kx_appS (news := [.string (bs p), .bool false, .slice a7 gd.length c7])); exact ty_el; exact ty_inf; rfl; rfl; rfl; rfl; exact (Sl.lit (n := 1) (Lent.h1 hl5) rfl (by simp [maxLen])); (exact atk); rfl; (unfold maxLen; omega); (omega); intro a' c'; refine apm ?_) | ((with_reducible apply swo_pur); (with_reducible apply pu_sl); rfl; (exact qasl); (exact qbd); (omega); (refine apk ?_)) | ((with_reducible apply kx_store); exact ty_size; rfl; rfl; (exact qsw); (exact qon); (exact qss); (refine apk ?_)) | (exfalso; first | contradiction | omega) | refine aw0 ?_ | (refine ap2 ?_ ?_ <;> try intro h) | refine aw1 ?_ | (refine abx ?_; intro bb) | (refine abz ?_; intro bz) | (refine ahv ?_; intro v' hv') | (refine aac ?_; intro ac cc) | refine aw2 ?_ | (refine ap4 ?_ ?_ <;> try intro h) | apply True.intro)
        exact ⟨_, by omega, m + 1, W1 ++ [⟨p, false, .slice a7 gd.length c7, gd⟩], a', c', _, fs'.drop q, rfl, by omega, by rw [List.map_append, List.append_assoc]; exact hW, hB, hRd _, hsub2 _, hld _, ⟨_, by rw [List.length_append, List.length_singleton, List.flatMap_append, show [(⟨p, false, .slice a7 gd.length c7, gd⟩ : ChV)].flatMap encCh = [.string (bs p), .bool false, .slice a7 gd.length c7] from rfl]; exact atks⟩, asls⟩
    · obtain rfl : m = gs.length := by omega
      rw [List.drop_length, List.map_nil, show diffK (fs'.map FileV.key) [] = (fs'.map FileV.key).map takeC from rfl, List.map_map, show takeC ∘ FileV.key = chK ∘ takeV from rfl, ← List.map_map, ← List.map_append] at hW
      have htk := take_any r2 b4 vm fs' a W.length c (W.flatMap encCh) hE (fun f hf => (hvb f (hsub f hf)).mono hr2) (by omega)
      obtain ⟨W1, hW1⟩ : ∃ W1, W ++ fs'.map takeV = W1 := ⟨_, rfl⟩
      have hW1l : W1.length = W.length + fs'.length := by rw [← hW1, List.length_append, List.length_map]
      have hW1f : W1.flatMap encCh = W.flatMap encCh ++ fs'.flatMap encTk := by rw [← hW1, List.flatMap_append, List.flatMap_map]; rfl
      have hW1b : ∀ h, ByC (W.map bytCh) h → ByC (W1.map bytCh) h := fun h e => by
        rw [← hW1, List.map_append, List.map_map]
        exact byC_takes e fs'
      rw [hW1] at hW
      rw [← hW1f, ← hW1l] at htk
      have hDW : D.length = W1.length := by rw [← hW, List.length_map]
      repeat' (first | ((with_reducible apply kx_call (f := 42) (cap := [.pointer (some ⟨b4, 0, none⟩)])); exact goesOf Try.func42 (by kernel_rfl) rfl; rfl; rfl; exact (htk); (exact atks); rintro v' H' ⟨a2, c2, rfl⟩; all_goals ((try simp only [List.cons_append, List.nil_append]); (refine apk ?_))) | ((with_reducible apply sw_imp (A := ByC (W.map bytCh)) (B := ByC (W1.map bytCh))); (with_reducible (exact atk)); exact hW1b) | ((with_reducible apply sw_joinA (As := [RowC 44 3 (.slice a2 W1.length c2) W1.length (W1.flatMap encCh), ByC (W1.map bytCh)]) (D := ChC (.slice a2 W1.length c2) D)); ((exact atks)); (exact fun h e => ⟨W1, hW, e⟩)) | (exfalso; first | contradiction | omega) | refine aw0 ?_ | (refine ap2 ?_ ?_ <;> try intro h) | refine aw1 ?_ | (refine abx ?_; intro bb) | (refine abz ?_; intro bz) | (refine ahv ?_; intro v' hv') | (refine aac ?_; intro ac cc) | refine aw2 ?_ | (refine ap4 ?_ ?_ <;> try intro h) | apply True.intro)
      ((with_reducible apply fp_ret); exact res_ct rfl ty_agg rfl (by (exact ard)) rfl)
      exact HR.out _ _ _ [ChC (.slice a2 W1.length c2) D] (by (exact atks)) ⟨a2, c2, by rw [hDW], by rw [hDW]⟩
  · have hq' : (q1 && q2) = false := by
      rw [← Bool.not_eq_true, Bool.and_eq_true]; exact hq
    rw [hq'] at HR
    simp only [Bool.false_eq_true, if_false] at HR
    cases q1
    · refine fn_of_sw Try.func17 rfl _ rfl ?_; refine aen Try.ntmps17 ?_
      repeat' (first | ((with_reducible apply kx_alloc (E := 25)); exact ty_zero; (exact qcl); intro b4; (refine apk ?_)) | (refine acl Try.func11 ?_; refine acr (hfo) ?_; rintro v' H' ⟨rfl, rfl⟩; all_goals refine apl ?_) | (exfalso; first | contradiction | omega) | refine aw0 ?_ | (refine ap2 ?_ ?_ <;> try intro h) | refine aw1 ?_ | (refine abx ?_; intro bb) | (refine abz ?_; intro bz) | (refine ahv ?_; intro v' hv') | (refine aac ?_; intro ac cc) | refine aw2 ?_ | (refine ap4 ?_ ?_ <;> try intro h) | apply True.intro)
      ((with_reducible apply fp_ret); exact res_ct rfl ty_agg rfl (by (exact ard)) rfl)
      exact HR.out _ _ _ [] Takes.all ⟨rfl, rfl⟩
    · obtain rfl : q2 = false := by simpa using hq'
      refine fn_of_sw Try.func17 rfl _ rfl ?_; refine aen Try.ntmps17 ?_
      repeat' (first | ((with_reducible apply kx_alloc (E := 25)); exact ty_zero; (exact qcl); intro b4; (refine apk ?_)) | (refine acl Try.func11 ?_; refine acr (hfo) ?_; rintro v' H' ⟨rfl, rfl⟩; all_goals refine apl ?_) | refine aw0 ?_ | (refine ap2 ?_ ?_ <;> try intro h) | refine aw1 ?_ | (refine abx ?_; intro bb) | (refine abz ?_; intro bz) | (refine ahv ?_; intro v' hv') | (refine aac ?_; intro ac cc) | refine aw2 ?_ | (refine ap4 ?_ ?_ <;> try intro h) | apply True.intro)
      repeat' (first | ((with_reducible apply kx_alloc (E := 25)); exact ty_zero; (exact qcl); intro b4; (refine apk ?_)) | (refine acl Try.func11 ?_; refine acr (hgo) ?_; rintro v' H' ⟨rfl, rfl⟩; all_goals refine apl ?_) | (exfalso; first | contradiction | omega) | refine aw0 ?_ | (refine ap2 ?_ ?_ <;> try intro h) | refine aw1 ?_ | (refine abx ?_; intro bb) | (refine abz ?_; intro bz) | (refine ahv ?_; intro v' hv') | (refine aac ?_; intro ac cc) | refine aw2 ?_ | (refine ap4 ?_ ?_ <;> try intro h) | apply True.intro)
      ((with_reducible apply fp_ret); exact res_ct rfl ty_agg rfl (by (exact ard)) rfl)
      exact HR.out _ _ _ [] Takes.all ⟨rfl, rfl⟩
end Go.Proofs.Ytmnehdpclnhmbaa
