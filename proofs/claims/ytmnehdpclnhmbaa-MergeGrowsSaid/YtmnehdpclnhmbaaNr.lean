
/- merge.Plan where all is right: the walk. -/
import Derived.Test.YtmnehdpclnhmbaaNq
import Derived.Test.YtmnehdpclnhmbaaBm
namespace Go.Proofs.Ytmnehdpclnhmbaa
open Go.RowKit Go.Maps Sx

def putV (x : ChV) : FileV := ⟨x.path, x.val, x.data⟩
def putsV (l : List ChV) : List FileV := (l.filter fun x => !x.take).map putV
theorem putsV_app (l m : List ChV) : putsV (l ++ m) = putsV l ++ putsV m := by unfold putsV; rw [List.filter_append, List.map_append]
theorem chC_open {v : Value} {D : List ChK} (h : Hp) (e : ChC v D h) : ∃ W : List ChV, W.map chK = D ∧ all [RowC 44 3 v W.length (W.flatMap encCh), ByC (W.map bytCh)] h := e
theorem diff_path {K B : List KeyM} (hK : filesOkK K = true) (hB : filesOkK B = true) {c : ChK} (h : c ∈ diffK K B) : c.1.length ≤ 200 := by
  rcases (mem_diff (filesOkK_iff.1 hB).2.2).1 h with ⟨f, hf, _, rfl⟩ | ⟨f, hf, _, rfl⟩
  · exact pathOk_len ((filesOkK_iff.1 hK).2.1 f hf).1
  · exact pathOk_len ((filesOkK_iff.1 hB).2.1 f hf).1
/-- What is left over at the end may be let go, what stays may be said otherwise. -/
theorem Sx.Tri.free4 {P : Program} {r : Hp} {f : FuncId} {args : List Value} {H : List Ch} {R : Rt} (h : ∀ R' : Rt, Hid (∀ v G H' H2, (∀ h, all H' h → all (H2 ++ G) h) → R v H2 → R' v H') → Tri P r f args H R') : Tri P r f args H R := by
  have h1 := h (fun v H' => ∃ G H2, (∀ h, all H' h → all (H2 ++ G) h) ∧ R v H2) (hid fun v G H' H2 ht hr => ⟨G, H2, ht, hr⟩)
  refine Tri.weak (tri_iff.2 fun w g o a => (tri_iff.1 h1 w g o a).mono ?_)
  rintro _ _ ⟨v, H', h', e, ⟨G, H2, ht, hr⟩, al, to⟩
  exact ⟨v, H2 ++ G, h', e, ⟨G, H2, List.perm_append_comm, hr⟩, ht h' al, to⟩
theorem Sx.takes_imp {As H' G H2 G2 : List Ch} (ht : Takes As H' G) (hi : ∀ h, all As h → all (H2 ++ G2) h) : ∀ h, all H' h → all (H2 ++ (G2 ++ G)) h := fun h e => by
  have e1 := all_perm ht e
  obtain ⟨x, y, dd, rfl, hx, hy⟩ := all_app.1 e1
  rw [← List.append_assoc]
  exact all_app.2 ⟨x, y, dd, rfl, hi x hx, hy⟩
theorem puts_perm : ∀ W : List ChV, (W.map bytCh).Perm ((putsV W).map bytF ++ (W.filter (·.take)).map bytCh)
  | [] => List.Perm.nil
  | ⟨p, t, v, d⟩ :: W => by
    have ih := puts_perm W
    cases t
    · exact ih.cons _
    · exact (ih.cons _).trans List.perm_middle.symm
/-- The fresh files take their bytes along. -/
theorem fresh_fil {W : List ChV} {v : Value} (h : Hp) (e : all [RowC 42 2 v (putsV W).length ((putsV W).flatMap encF), ByC (W.map bytCh)] h) : all ([FilC v ((putsV W).map FileV.key)] ++ [ByC ((W.filter (·.take)).map bytCh)]) h := by
  obtain ⟨g1, g2, dd, rfl, h1, h2⟩ := e
  have h3 := all_one.1 h2
  have h4 : all (((putsV W).map bytF ++ (W.filter (·.take)).map bytCh).map fun z => U8R z.val z.data) g2 := all_perm ((puts_perm W).map _) h3
  rw [List.map_append] at h4
  obtain ⟨x, y, d2, rfl, hx, hy⟩ := all_app.1 h4
  have e1 : all ([RowC 42 2 v (putsV W).length ((putsV W).flatMap encF), ByC ((putsV W).map bytF)] ++ [ByC ((W.filter (·.take)).map bytCh)]) (un g1 (un x y)) := ⟨g1, _, dd, rfl, h1, all_app.2 ⟨x, y, d2, rfl, all_one.2 hx, all_one.2 hy⟩⟩
  obtain ⟨a, b, d3, e3, ha, hb⟩ := all_app.1 e1
  rw [e3]
  exact all_app.2 ⟨a, b, d3, rfl, all_one.2 ⟨putsV W, rfl, ha⟩, hb⟩
theorem rowsP_cons {Z : List RowI} {z : RowI} (h : Hp) (e : RowsP (z :: Z) h) : all [RowC 3 1 z.val z.nums.length (z.nums.flatMap encJ), RowsP Z] h := by
  obtain ⟨g1, g2, dd, rfl, h1, h2⟩ := e
  exact ⟨g1, g2, dd, rfl, h1, all_one.2 h2⟩
theorem rowsC_of {Z : List RowI} {v : Value} {n : Nat} (hn : Z.length = n) {rows : List (List Int)} (hr : Z.map (·.nums) = rows) (h : Hp) (e : all [RowC 34 1 v n (Z.map (·.val)), RowsP Z] h) : RowsC v rows h := by
  subst hn
  exact ⟨Z, hr, e⟩
theorem plan_rows {Z : List RowI} {W : List ChV} {v1 v2 : Value} {n : Nat} (hn : Z.length = n) {P : List FileV} (hP : putsV W = P) {rows : List (List Int)} (hr : Z.map (·.nums) = rows) {D : List KeyM} (hD : P.map FileV.key = D) (h : Hp) (e : all [RowC 34 1 v1 n (Z.map (·.val)), RowsP Z, RowC 42 2 v2 P.length (P.flatMap encF), ByC (W.map bytCh)] h) : all ([RowsC v1 rows, FilC v2 D] ++ [ByC ((W.filter (·.take)).map bytCh)]) h := by
  subst hP; subst hD
  have e' : all ([RowC 34 1 v1 n (Z.map fun z => z.val), RowsP Z] ++ [RowC 42 2 v2 (putsV W).length ((putsV W).flatMap encF), ByC (W.map bytCh)]) h := e
  obtain ⟨x, y, dd, rfl, hx, hy⟩ := all_app.1 e'
  exact ⟨x, y, dd, rfl, rowsC_of hn hr x hx, fresh_fil y hy⟩
theorem plan_alls {Z : List RowI} {v1 v2 : Value} {n : Nat} (hn : Z.length = n) {rows : List (List Int)} (hr : Z.map (·.nums) = rows) {B : List KeyM} (h : Hp) (e : all [RowC 34 1 v1 n (Z.map (·.val)), RowsP Z, FilC v2 B] h) : all ([RowsC v1 rows, FilC v2 B] ++ []) h := by
  have e' : all ([RowC 34 1 v1 n (Z.map fun z => z.val), RowsP Z] ++ [FilC v2 B]) h := e
  obtain ⟨x, y, dd, rfl, hx, hy⟩ := all_app.1 e'
  exact ⟨x, y, dd, rfl, rowsC_of hn hr x hx, hy⟩
theorem puts_key (W : List ChV) : (putsV W).map FileV.key = putsK (W.map chK) := by
  unfold putsV putsK
  induction W with
  | nil => rfl
  | cons c W ih =>
    obtain ⟨p, t, v, d⟩ := c
    cases t
    · exact congrArg (_ :: ·) ih
    · exact ih
set_option maxRecDepth 10000 in
set_option maxHeartbeats 8000000 in
theorem mplanG_any (r : Hp) (v vl : Value) (X : List PartM) (cs : List ChV) (hv : PartsR r v X) (hl : Chs r vl cs) (hn : X.length ≤ 1000000) (hm : cs.length ≤ 1000000) (hp : ∀ x ∈ X, ∀ f ∈ x.files, f.path.length ≤ 1000000 ∧ f.data.length ≤ 10000000) (hcp : ∀ c ∈ cs, c.path.length ≤ 1000000 ∧ c.data.length ≤ 10000000) (ho : partsOk (X.map PartM.key) = true) (hb : batchOk (cs.map chK) = true) (hbig : (behindK (liveK (X.map PartM.key)) (cs.map chK)).length ≤ 4000) (K B : List KeyM) (D : List ChK) (hK : liveK (X.map PartM.key) = K) (hB : behindK K (cs.map chK) = B) (hD : diffK K B = D) :
    Tri Try.prog r 7 [v, vl] [] fun w H => ∃ (rows : List (List Int)) (fresh : List KeyM), planK (X.map PartM.key) (cs.map chK) = (some (rows, fresh), 0) ∧ ∃ a c a2 c2, w = .tuple #[.slice a rows.length c, .slice a2 fresh.length c2, .int .i64 0] ∧ H = [RowsC (.slice a rows.length c) rows, FilC (.slice a2 fresh.length c2) fresh] := by
  refine Tri.free4 fun R HR => ?_
  have hmr := mright_any r v X hv hn fun x hx f hf => (hp x hx f hf).1
  have hbr := bright_any r vl cs hl hm fun c hc => (hcp c hc).1
  have hml := mlive_any r v X hv hn (fun x hx f hf => (hp x hx f hf).1) fun x hx f hf => by have := (hp x hx f hf).2; omega
  rw [ho] at hmr
  rw [hb] at hbr
  have hKo := (live_ok ho).2.2
  have hBo := behind_ok hKo hb hbig
  have hA : applyK (liveK (X.map PartM.key)) (cs.map chK) = (some B, 0) := by
    unfold applyK
    rw [hKo, hb, if_pos hbig, hK, hB]; rfl
  have hap : ∀ (r' g : Hp) (u : Value), sub r r' → sub g r' → FilC u K g → Tri Try.prog r' 6 [u, vl] [] fun w H => ∃ a c, w = .tuple #[.slice a B.length c, .int .i64 0] ∧ H = [FilC (.slice a B.length c) B] := fun r' g u h1 h2 h3 => by
    obtain ⟨Z, hZ, hF⟩ := filC_files h3 h2
    obtain ⟨hb1, hb2⟩ := live_bounds ho hp (hZ.trans hK.symm)
    have h := apply_any r' u vl Z cs hF ⟨hl.1.mono h1, fun x hx => (hl.2 x hx).mono h1⟩ (by omega) hm hb1 hcp
    rw [hZ, ← hK, hA] at h
    exact h
  have hpl : planK (X.map PartM.key) (cs.map chK) = if manyK (X.map PartM.key) D ≤ 40 then (some ((X.map PartM.key).map fun p => rowK p D, putsK D), 0) else (some ((X.map PartM.key).map allK, B), 0) := by
    unfold planK
    have hA2 := hA
    rw [hK] at hA2
    simp only [ho, hb, hA2, Bool.and_self, if_true, hK, hD]
  have hpx := hp
  have hvp := hv.1
  rw [hK] at hml hKo hBo
  rw [hB] at hBo
  have hdf := fun (r' g1 g2 : Hp) (u w : Value) (s1 : sub g1 r') (s2 : sub g2 r') (h1 : FilC u K g1) (h2 : FilC w B g2) => diffC_any r' hKo hBo s1 s2 h1 h2
  rw [hD] at hdf
  refine fn_of_sw Try.func7 rfl _ rfl ?_; refine aen Try.ntmps7 ?_
  refine sw_put (A := RowC 42 2 (.slice none 0 0) 0 []) (RowC.nil _ _) ?_
  refine sw_put (A := RowC 34 1 (.slice none 0 0) 0 []) (RowC.nil _ _) ?_
  repeat' (first | (refine acl Try.func16 ?_; refine acr (hmr) ?_; rintro v' H' ⟨rfl, rfl⟩; all_goals refine apl ?_) | (refine acl Try.func12 ?_; refine acr (hbr) ?_; rintro v' H' ⟨rfl, rfl⟩; all_goals refine apl ?_) | (refine acl Try.func9 ?_; refine acr (hml) ?_; rintro v' H' ⟨a1, c1, rfl, rfl⟩; all_goals refine apl ?_) | ((with_reducible refine swo_isCall 6 ?_); (with_reducible apply kx_lendC (A := FilC (.slice a1 K.length c1) K)); (exact atk); intro r' gg hr hgr hgg; (refine acl Try.func6 ?_; refine acr (hap r' gg _ hr hgr hgg) ?_; rintro v' H' ⟨a2, c2, rfl, rfl⟩; all_goals refine apl ?_)) | ((with_reducible apply kx_alloc (E := 58)); exact ty_zero; (exact qcl); intro b9; (refine apk ?_)) | ((with_reducible apply kx_mmake 9); intro bm; (refine apk ?_)) | ((with_reducible refine swo_isCall 17 ?_); (with_reducible apply kx_lendC (A := FilC (.slice a1 K.length c1) K)); (exact atk); intro r' gg hr hgr hgg; (with_reducible apply kx_lendC (A := FilC (.slice a2 B.length c2) B)); (exact atk); intro r2 g2 hr2 hgr2 hgg2; (refine acl Try.func17 ?_; refine acr (hdf r2 gg g2 _ _ (fun b o e => hr2 b o (hgr b o e)) hgr2 hgg hgg2) ?_; rintro v' H' ⟨a3, c3, rfl, rfl⟩; all_goals refine apl ?_)) | (exfalso; first | contradiction | omega) | refine aw0 ?_ | (refine ap2 ?_ ?_ <;> try intro h) | refine aw1 ?_ | (refine abx ?_; intro bb) | (refine abz ?_; intro bz) | (refine ahv ?_; intro v' hv') | (refine aac ?_; intro ac cc) | refine aw2 ?_ | (refine ap4 ?_ ?_ <;> try intro h) | apply True.intro)
  refine sw_open (B := fun W : List ChV => [RowC 44 3 (.slice a3 D.length c3) W.length (W.flatMap encCh), ByC (W.map bytCh)]) (A := ChC (.slice a3 D.length c3) D) (by (exact atk)) chC_open fun W hW => ?_
  have hWl : W.length = D.length := by rw [← hW, List.length_map]
  refine sw_lendQ (A := RowC 44 3 (.slice a3 D.length c3) W.length (W.flatMap encCh)) (by (exact atk)) fun r2 g2 hr2 hg2 hA2 => ?_
  have hve2 : Els r2 3 encCh (.slice a3 D.length c3) W := ⟨fun _ => rfl, hA2.sl hg2⟩
  refine sw_lendQ (A := ByC (W.map bytCh)) (by simp only [List.append_eq, List.cons_append, List.nil_append]; (exact atk)) fun r3 g3 hr3 hg3 hB3 => ?_
  have hve := hve2.mono hr3
  have hwb : ∀ x ∈ W, U8S r3 x.val x.data := fun x hx => byC_in hB3 hg3 (bytCh x) (List.mem_map_of_mem hx)
  have hD4 : D.length ≤ 8000 := by
    have h1 := len_diffK B K
    have h2 := (filesOkK_iff.1 hKo).1
    have h3 := (filesOkK_iff.1 hBo).1
    rw [hD] at h1
    omega
  have hwp : ∀ x ∈ W, x.path.length ≤ 1000000 := fun x hx => by
    have h1 := diff_path hKo hBo (hD.symm ▸ hW ▸ List.mem_map_of_mem hx : chK x ∈ diffK K B)
    have h2 : x.path.length ≤ 200 := h1
    omega
  refine sw_loop (fun gm t H' => ∃ (k : Nat) (M : Lit → Option Value) (a4 : Option Addr) (c4 : Nat), gm = D.length + 1 - k ∧ (k ≤ D.length) ∧ (∀ s, M (.string s) = if hasP (D.take k) s then some (.bool true) else none) ∧ (∃ G, Takes [FilC (.slice a1 K.length c1) K, FilC (.slice a2 B.length c2) B, MapC Try.prog 9 bm k M, pt b9 (.cells [.slice none 0 0, .slice a4 (putsV (W.take k)).length c4, .int .i64 0].toArray 58 (0, 0)), RowC 34 1 (.slice none 0 0) 0 [], RowC 42 2 (.slice a4 (putsV (W.take k)).length c4) (putsV (W.take k)).length ((putsV (W.take k)).flatMap encF)] H' G) ∧ Sls t 125 [(0, v), (8, .slice a2 B.length c2), (9, .pointer (some ⟨b9, 0, none⟩)), (10, .map (some bm)), (46, .slice a3 D.length c3), (47, .int .i64 D.length), (48, .int .i64 k)]) _ ⟨0, (fun _ => none), none, 0, rfl, Nat.zero_le _, (fun s => by simp [hasP]), ⟨_, atks⟩, asls⟩ ?_
  rintro gm t H' ⟨k, M, a4, c4, rfl, hk, hM, ⟨G, hp⟩, hs'⟩
  revert t; refine sls_all ?_; iterate 118 intro uu'
  refine sw_takeG hp ?_; clear hp
  by_cases hlt : k < D.length
  · obtain ⟨x, hx⟩ : ∃ x, W.getD k default = x := ⟨_, rfl⟩
    have hxm : x ∈ W := hx ▸ getD_memS (by omega)
    have hxp := hwp x hxm
    have hx1 := hwb x hxm
    have hDk : D.take (k + 1) = D.take k ++ [chK x] := by
      rw [← hW, ← List.map_take, ← List.map_take, take_getD (d := default) (by omega : k < W.length), hx, List.map_append]; rfl
    have hWk : W.take (k + 1) = W.take k ++ [x] := by rw [take_getD (d := default) (by omega : k < W.length), hx]
    have hput : ∀ M2 : Lit → Option Value, (∀ y, M2 (.string y) = if y = x.path then some (.bool true) else M (.string y)) → ∀ s, M2 (.string s) = if hasP (D.take (k + 1)) s then some (.bool true) else none := fun M2 h s => by
      rw [h, hDk, hM]
      unfold hasP
      rw [List.any_append, List.any_cons, List.any_nil, Bool.or_false]
      by_cases e : s = x.path
      · subst e; simp [chK]
      · have e2 : ¬ (chK x).1 = s := fun h => e h.symm
        rw [if_neg e, decide_eq_false e2, Bool.or_false]
    have hPl : (putsV (W.take k)).length ≤ 8000 := by
      unfold putsV
      rw [List.length_map]
      exact Nat.le_trans (List.length_filter_le _ _) (by rw [List.length_take]; omega)
    obtain ⟨P, hP⟩ : ∃ P, putsV (W.take k) = P := ⟨_, rfl⟩
    rw [hP] at hPl ⊢
    obtain ⟨xp, xt, xv, xd⟩ := x
    dsimp only at hxp hx1
    have hx2 : one? xv = true := hx1.one
    have hxe : encCh ⟨xp, xt, xv, xd⟩ = [.string (bs xp), .bool xt, xv] := rfl
    cases xt
    · have hP2 : putsV (W.take (k + 1)) = P ++ [⟨xp, xv, xd⟩] := by rw [hWk, putsV_app, hP]; rfl
      repeat' (first | (rw [hx, hxe]) | ((with_reducible apply kx_alloc (E := 44)); exact ty_zero; (exact qcl); intro b6; (refine apk ?_)) | ((with_reducible apply kx_mputS (kt := 9) (et := 4) (g := xp)); kernel_rfl; exact Try.underlying9; rfl; rfl; rfl; (unfold maxLen; omega); (exact atk); (unfold maxLen; omega); intro M2 hM2; (refine apk ?_)) | ((with_reducible refine swo_isApp ?_); (with_reducible apply kx_lend [(bz, .cells [.string (bs xp), xv].toArray 42 (0, 0))]); (exact atks); intro r5 hl5; (with_reducible apply kx_appS (news := [.string (bs xp), xv])); exact ty_el; exact ty_inf; rfl; rfl; rfl; rfl; exact (Sl.lit (n := 1) (Lent.h1 hl5) rfl (by simp [maxLen])); (exact atk); (simp only [List.all_cons, List.all_nil, hx2]; rfl); (unfold maxLen; omega); (omega); intro a' c'; refine apm ?_) | (exfalso; first | contradiction | omega) | refine aw0 ?_ | (refine ap2 ?_ ?_ <;> try intro h) | refine aw1 ?_ | (refine abx ?_; intro bb) | (refine abz ?_; intro bz) | (refine ahv ?_; intro v' hv') | (refine aac ?_; intro ac cc) | refine aw2 ?_ | (refine ap4 ?_ ?_ <;> try intro h) | apply True.intro)
      exact ⟨_, by omega, k + 1, M2, a', c', rfl, by omega, hput M2 hM2, ⟨_, by rw [hP2, List.length_append, List.length_singleton, List.flatMap_append, show [(⟨xp, xv, xd⟩ : FileV)].flatMap encF = [.string (bs xp), xv] from rfl]; exact atks⟩, asls⟩
    · have hP2 : putsV (W.take (k + 1)) = P := by rw [hWk, putsV_app, hP]; simp [putsV]
      repeat' (first | (rw [hx, hxe]) | ((with_reducible apply kx_alloc (E := 44)); exact ty_zero; (exact qcl); intro b6; (refine apk ?_)) | ((with_reducible apply kx_mputS (kt := 9) (et := 4) (g := xp)); kernel_rfl; exact Try.underlying9; rfl; rfl; rfl; (unfold maxLen; omega); (exact atk); (unfold maxLen; omega); intro M2 hM2; (refine apk ?_)) | (exfalso; first | contradiction | omega) | refine aw0 ?_ | (refine ap2 ?_ ?_ <;> try intro h) | refine aw1 ?_ | (refine abx ?_; intro bb) | (refine abz ?_; intro bz) | (refine ahv ?_; intro v' hv') | (refine aac ?_; intro ac cc) | refine aw2 ?_ | (refine ap4 ?_ ?_ <;> try intro h) | apply True.intro)
      exact ⟨_, by omega, k + 1, M2, a4, c4, rfl, by omega, hput M2 hM2, ⟨_, by rw [hP2]; exact atks⟩, asls⟩
  · obtain rfl : k = D.length := by omega
    rw [List.take_length] at hM
    rw [show W.take D.length = W by rw [← hWl, List.take_length]]
    obtain ⟨P, hP⟩ : ∃ P, putsV W = P := ⟨_, rfl⟩
    rw [hP]
    have hPk : P.map FileV.key = putsK D := by rw [← hP, puts_key, hW]
    have hPl : P.length ≤ 8000 := by
      rw [← hP]
      unfold putsV
      rw [List.length_map]
      exact Nat.le_trans (List.length_filter_le _ _) (by omega)
    have hPe : (putsK D).length = P.length := by rw [← hPk, List.length_map]
    have hMg : ∀ s, (M (.string s)).getD (.bool false) = .bool (hasP D s) := fun s => by rw [hM]; cases hasP D s <;> rfl
    repeat' (first | (exfalso; first | contradiction | omega) | refine aw0 ?_ | (refine ap2 ?_ ?_ <;> try intro h) | refine aw1 ?_ | (refine abx ?_; intro bb) | (refine abz ?_; intro bz) | (refine ahv ?_; intro v' hv') | (refine aac ?_; intro ac cc) | refine aw2 ?_ | (refine ap4 ?_ ?_ <;> try intro h) | apply True.intro)
    refine sw_put (A := RowsP []) rfl ?_
    refine sw_loop (fun gm t H' => ∃ (k many : Nat) (Z : List RowI) (a5 : Option Addr) (c5 : Nat), gm = X.length + 1 - k ∧ (k ≤ X.length) ∧ (Z.map (·.nums) = (X.take k).map (fun x => rowK x.key D)) ∧ (many = (X.take k).countP (fun x => decide ((rowK x.key D).length < x.key.files.length))) ∧ (∃ G, Takes [ByC (W.map bytCh), FilC (.slice a2 B.length c2) B, MapC Try.prog 9 bm D.length M, pbox b9 (.slice a5 k c5) (.slice a4 P.length c4) many, RowC 34 1 (.slice a5 k c5) k (Z.map (·.val)), RowsP Z, RowC 42 2 (.slice a4 P.length c4) P.length (P.flatMap encF)] H' G) ∧ Sls t 125 [(0, v), (8, .slice a2 B.length c2), (9, .pointer (some ⟨b9, 0, none⟩)), (10, .map (some bm)), (69, v), (70, .int .i64 X.length), (71, .int .i64 k)]) _ ⟨0, 0, [], none, 0, rfl, Nat.zero_le _, rfl, rfl, ⟨_, atks⟩, asls⟩ ?_
    rintro gm t H' ⟨k, many, Z, a5, c5, rfl, hk, hZ, hmn, ⟨G, hp⟩, hs'⟩
    revert t; refine sls_all ?_; iterate 118 intro uu'
    refine sw_takeG hp ?_; clear hp
    by_cases hlt2 : k < X.length
    · obtain ⟨x, hx⟩ : ∃ x, X.getD k default = x := ⟨_, rfl⟩
      have hxm : x ∈ X := hx ▸ getDm hlt2
      have hxe : encMp x = [x.fv, x.dv] := rfl
      have hfe := (hv.2 x hxm).1.1
      have hde := (hv.2 x hxm).2
      have hone : oneOk x.key = true := (partsOk_iff.1 ho).1 x.key (List.mem_map_of_mem hxm)
      have htk : X.take (k + 1) = X.take k ++ [x] := by rw [take_getD (d := default) hlt2, hx]
      have hml2 : many ≤ 1000000 := by rw [hmn]; exact Nat.le_trans List.countP_le_length (by rw [List.length_take]; omega)
      have hpa := fun (r' : Hp) (h : sub r r') => part_any r' b9 bm D.length k c5 many a5 (.slice a4 P.length c4) (Z.map (·.val)) x D M ((hv.2 x hxm).mono h) hone (fun f hf => (hpx x hxm f hf).1) hMg (by omega) hml2 rfl
      repeat' (first | (rw [hx, hxe]) | ((with_reducible apply kx_alloc (E := 36)); exact ty_zero; (exact qcl); intro b6; (refine apk ?_)) | (refine acl Try.func18 ?_; refine acr (hpa r (fun _ _ h => h)) ?_; rintro v' H' ⟨a', c', a6, c6, rfl⟩; all_goals refine apl ?_) | ((with_reducible apply swo_joinA (As := [RowsP Z, RowC 3 1 (.slice a6 (rowK x.key D).length c6) (rowK x.key D).length ((rowK x.key D).flatMap encJ)]) (D := RowsP (Z ++ [⟨.slice a6 (rowK x.key D).length c6, rowK x.key D⟩]))); ((exact atks)); (exact fun h e => rowsP_snoc h e)) | (exfalso; first | contradiction | omega) | refine aw0 ?_ | (refine ap2 ?_ ?_ <;> try intro h) | refine aw1 ?_ | (refine abx ?_; intro bb) | (refine abz ?_; intro bz) | (refine ahv ?_; intro v' hv') | (refine aac ?_; intro ac cc) | refine aw2 ?_ | (refine ap4 ?_ ?_ <;> try intro h) | apply True.intro)
      exact ⟨_, by omega, k + 1, many + one01 (decide ((rowK x.key D).length < x.key.files.length)), Z ++ [⟨.slice a6 (rowK x.key D).length c6, rowK x.key D⟩], a', c', rfl, by omega, by rw [htk, List.map_append, List.map_append, hZ]; rfl, by rw [htk, List.countP_append, hmn, List.countP_cons, List.countP_nil, Nat.zero_add]; rfl, ⟨_, by rw [List.map_append]; exact atks⟩, asls⟩
    · obtain rfl : k = X.length := by omega
      rw [List.take_length] at hZ hmn
      have hmK : manyK (X.map PartM.key) D = many + min P.length 1 := by
        unfold manyK
        rw [List.countP_map, hmn, ← hPk]
        cases P <;> simp [Function.comp_def]
      have hZl : Z.length = X.length := by have h := congrArg List.length hZ; rw [List.length_map, List.length_map] at h; exact h
      have hml2 : many ≤ 1000000 := by rw [hmn]; exact Nat.le_trans List.countP_le_length (by omega)
      by_cases hq : many + min P.length 1 ≤ 40
      · rw [if_pos (by omega), List.map_map] at hpl
        repeat' (first | ((with_reducible apply sw_draw (id := 23) 5 [(0, true), (1, true), (2, true), (3, true), (4, true)] [(5, false), (6, false)] [(b9, .cells [.slice a5 X.length c5, .slice a4 P.length c4, .int .i64 many].toArray 58 (0, 0))]); kernel_rfl; (exact atks); kernel_rfl; intro r' hl') | (exfalso; first | contradiction | omega) | refine aw0 ?_ | (refine ap2 ?_ ?_ <;> try intro h) | refine aw1 ?_ | (refine abx ?_; intro bb) | (refine abz ?_; intro bz) | (refine ahv ?_; intro v' hv') | (refine aac ?_; intro ac cc) | refine aw2 ?_ | (refine ap4 ?_ ?_ <;> try intro h) | apply True.intro)
        ((with_reducible apply fp_ret); exact res_3 rfl rfl rfl rfl)
        exact HR.out _ _ _ [RowsC (.slice a5 X.length c5) (X.map fun x => rowK x.key D), FilC (.slice a4 P.length c4) (putsK D)] (takes_imp (by (exact atks)) (plan_rows hZl hP hZ hPk)) ⟨_, _, hpl, a5, c5, a4, c4, by rw [List.length_map, hPe], by rw [List.length_map, hPe]; rfl⟩
      · rw [if_neg (by omega), List.map_map] at hpl
        repeat' (first | (exfalso; first | contradiction | omega) | refine aw0 ?_ | (refine ap2 ?_ ?_ <;> try intro h) | refine aw1 ?_ | (refine abx ?_; intro bb) | (refine abz ?_; intro bz) | (refine ahv ?_; intro v' hv') | (refine aac ?_; intro ac cc) | refine aw2 ?_ | (refine ap4 ?_ ?_ <;> try intro h) | apply True.intro)
        refine sw_put (A := RowsP []) rfl ?_
        refine sw_loop (fun gm t H' => ∃ (k : Nat) (Y T : List RowI), gm = X.length + 1 - k ∧ (k ≤ X.length) ∧ (Y.map (·.nums) = (X.take k).map (fun x => allK x.key)) ∧ (k + T.length = X.length) ∧ (∃ G, Takes [FilC (.slice a2 B.length c2) B, pbox b9 (.slice a5 X.length c5) (.slice a4 P.length c4) many, RowC 34 1 (.slice a5 X.length c5) X.length (Y.map (·.val) ++ T.map (·.val)), RowsP Y, RowsP T] H' G) ∧ Sls t 125 [(8, .slice a2 B.length c2), (9, .pointer (some ⟨b9, 0, none⟩)), (91, v), (92, .int .i64 X.length), (93, .int .i64 k)]) _ ⟨0, [], Z, rfl, Nat.zero_le _, rfl, by rw [hZl, Nat.zero_add], ⟨_, atks⟩, asls⟩ ?_
        rintro gm t H' ⟨k, Y, T, rfl, hk, hY, hTl, ⟨G, hp⟩, hs'⟩
        revert t; refine sls_all ?_; iterate 120 intro uu'
        refine sw_takeG hp ?_; clear hp
        have hYl : k ≤ X.length → Y.length = k := fun hk => by
          have h := congrArg List.length hY
          rw [List.length_map, List.length_map, List.length_take] at h
          omega
        by_cases hlt3 : k < X.length
        · obtain ⟨x, hx⟩ : ∃ x, X.getD k default = x := ⟨_, rfl⟩
          have hxm : x ∈ X := hx ▸ getDm hlt3
          have hxe : encMp x = [x.fv, x.dv] := rfl
          have hde := (hv.2 x hxm).2
          have hfe := (hv.2 x hxm).1.1
          have hfl := hfe.2.2.1
          have hone : oneOk x.key = true := (partsOk_iff.1 ho).1 x.key (List.mem_map_of_mem hxm)
          have hfl2 : x.files.length ≤ 4000 := (one_dead' hone).2
          have htk : X.take (k + 1) = X.take k ++ [x] := by rw [take_getD (d := default) hlt3, hx]
          obtain ⟨z, T', rfl⟩ : ∃ z T', T = z :: T' := by
            cases T with
            | nil => simp at hTl; omega
            | cons z T' => exact ⟨z, T', rfl⟩
          rw [List.length_cons] at hTl
          have hYk := hYl hk
          have hgk : ∀ u : Value, (Y.map (·.val) ++ u :: T'.map (·.val))[((k : Nat) : Int).toNat * 1]? = some u := fun u => by
            rw [Int.toNat_natCast, Nat.mul_one, List.getElem?_append_right (by rw [List.length_map]; omega)]
            simp [hYk]
          have hsk : ∀ u w : Value, (Y.map (·.val) ++ u :: T'.map (·.val)).set (((k : Nat) : Int).toNat * 1) w = Y.map (·.val) ++ w :: T'.map (·.val) := fun u w => by
            rw [Int.toNat_natCast, Nat.mul_one, List.set_append_right _ _ (by rw [List.length_map]; omega)]
            simp [hYk]
          have hnk : ∀ u : Value, (Y.map (·.val) ++ u :: T'.map (·.val)).length = X.length := fun u => by
            rw [List.length_append, List.length_cons, List.length_map, List.length_map]; omega
          refine sw_open (A := RowsP (z :: T')) (ι := Unit) (B := fun _ => [RowC 3 1 z.val z.nums.length (z.nums.flatMap encJ), RowsP T']) (φ := fun _ => True) (by (exact atk)) (fun h e => ⟨(), trivial, rowsP_cons h e⟩) fun _ _ => ?_
          dsimp only [List.cons_append, List.nil_append]
          refine sw_drop ?_
          refine sw_put (A := RowC 3 1 (.slice none 0 0) 0 []) (RowC.nil _ _) ?_
          rw [List.map_cons]
          repeat' (first | (rw [hx, hxe]) | (rw [hsk]) | ((with_reducible apply kx_alloc (E := 36)); exact ty_zero; (exact qcl); intro b6; (refine apk ?_)) | ((with_reducible apply kx_stC); exact ty_size; rfl; rfl; (exact atk); rfl; (rw [hnk]; omega); (refine apk ?_)) | (exfalso; first | contradiction | omega) | refine aw0 ?_ | (refine ap2 ?_ ?_ <;> try intro h) | refine aw1 ?_ | (refine abx ?_; intro bb) | (refine abz ?_; intro bz) | (refine ahv ?_; intro v' hv') | (refine aac ?_; intro ac cc) | refine aw2 ?_ | (refine ap4 ?_ ?_ <;> try intro h) | apply True.intro)
          refine sw_loop (fun gm t H' => ∃ (j : Nat) (a7 : Option Addr) (c7 : Nat), gm = x.files.length + 1 - j ∧ (j ≤ x.files.length) ∧ (∃ G, Takes [FilC (.slice a2 B.length c2) B, pbox b9 (.slice a5 X.length c5) (.slice a4 P.length c4) many, RowC 34 1 (.slice a5 X.length c5) X.length (Y.map (·.val) ++ .slice a7 j c7 :: T'.map (·.val)), RowC 3 1 (.slice a7 j c7) j (((List.range j).map Int.ofNat).flatMap encJ), RowsP Y, RowsP T'] H' G) ∧ Sls t 125 [(8, .slice a2 B.length c2), (9, .pointer (some ⟨b9, 0, none⟩)), (17, .int .i64 k), (91, v), (92, .int .i64 X.length), (93, .int .i64 k), (104, .int .i64 x.files.length), (105, .int .i64 j)]) _ ⟨0, none, 0, rfl, Nat.zero_le _, ⟨_, atks⟩, asls⟩ ?_
          rintro gm t H' ⟨j, a7, c7, rfl, hj, ⟨G, hp⟩, hs'⟩
          revert t; refine sls_all ?_; iterate 117 intro uu'
          refine sw_takeG hp ?_; clear hp
          by_cases hlt4 : j < x.files.length
          · repeat' (first | (rw [hsk]) | ((with_reducible apply sw_drawT (id := 31) 11 (Pl.seg [(0, true), (1, true), (2, true), (3, true), (4, true), (5, true), (8, true)] (Pl.two 6 9 (Pl.seg [] (Pl.two 7 9 (Pl.seg [(9, false), (10, false)] Pl.leaf) (Pl.seg [(7, false), (10, false)] Pl.leaf))) (Pl.seg [(6, false), (7, false), (10, false)] Pl.leaf))) (List.replicate 11 true ++ List.replicate 2 false).toArray [(11, false), (12, false)] [(b9, .cells [.slice a5 X.length c5, .slice a4 P.length c4, .int .i64 many].toArray 58 (0, 0))]); kernel_rfl; (exact atks); kernel_rfl; intro r' hl') | (first | ((with_reducible apply kx_bs1); exact ty_el; exact ty_inf; rfl; rfl; rfl; intro bz; (refine apk ?_)) | ((with_reducible apply kx_bsN); exact ty_el; exact ty_inf; rfl; rfl; rfl; intro bz; (refine apk ?_))) | ((with_reducible apply kx_ldC); rfl; (exact atk); exact hgk _; (refine apk ?_)) | ((with_reducible apply kx_stC); exact ty_size; rfl; rfl; (exact atk); rfl; (rw [hnk]; omega); (refine apk ?_)) | ((with_reducible refine swo_isApp ?_); (with_reducible apply kx_lend [(bz, .cells [.int .i64 j].toArray 3 (0, 0))]); (exact atks); intro r5 hl5; (with_reducible apply kx_appS (news := [.int .i64 j])); exact ty_el; exact ty_inf; rfl; rfl; rfl; rfl; exact (Sl.lit (n := 1) (Lent.h1 hl5) rfl (by simp [maxLen])); (exact atk); rfl; (unfold maxLen; omega); (omega); intro a' c'; refine apm ?_) | (exfalso; first | contradiction | omega) | refine aw0 ?_ | (refine ap2 ?_ ?_ <;> try intro h) | refine aw1 ?_ | (refine abx ?_; intro bb) | (refine abz ?_; intro bz) | (refine ahv ?_; intro v' hv') | (refine aac ?_; intro ac cc) | refine aw2 ?_ | (refine ap4 ?_ ?_ <;> try intro h) | apply True.intro)
            all_goals exact ⟨_, by omega, j + 1, a', c', rfl, by omega, ⟨_, by rw [List.range_succ, List.map_append, List.flatMap_append, show ([j].map Int.ofNat).flatMap encJ = [.int .i64 j] from rfl]; exact atks⟩, asls⟩
          · obtain rfl : j = x.files.length := by omega
            have hln : ((List.range x.files.length).map Int.ofNat).length = x.files.length := by rw [List.length_map, List.length_range]
            have hal : allK x.key = (List.range x.files.length).map Int.ofNat := by unfold allK PartM.key; rw [List.length_map]
            refine sw_joinA (As := [RowsP Y, RowC 3 1 (.slice a7 x.files.length c7) x.files.length (((List.range x.files.length).map Int.ofNat).flatMap encJ)]) (D := RowsP (Y ++ [⟨.slice a7 x.files.length c7, (List.range x.files.length).map Int.ofNat⟩])) (by (exact atks)) (fun h e => rowsP_snoc h (by rw [hln]; exact e)) ?_
            repeat' (first | (exfalso; first | contradiction | omega) | refine aw0 ?_ | (refine ap2 ?_ ?_ <;> try intro h) | refine aw1 ?_ | (refine abx ?_; intro bb) | (refine abz ?_; intro bz) | (refine ahv ?_; intro v' hv') | (refine aac ?_; intro ac cc) | refine aw2 ?_ | (refine ap4 ?_ ?_ <;> try intro h) | apply True.intro)
            exact ⟨_, by omega, k + 1, Y ++ [⟨.slice a7 x.files.length c7, (List.range x.files.length).map Int.ofNat⟩], T', rfl, by omega, by rw [htk, List.map_append, List.map_append, hY, ← hal]; rfl, by omega, ⟨_, by rw [List.map_append, List.append_assoc]; exact atks⟩, asls⟩
        · obtain rfl : k = X.length := by omega
          obtain rfl : T = [] := List.length_eq_zero_iff.1 (by omega)
          rw [List.take_length] at hY
          rw [List.map_nil, List.append_nil]
          have hYk := hYl hk
          repeat' (first | (exfalso; first | contradiction | omega) | refine aw0 ?_ | (refine ap2 ?_ ?_ <;> try intro h) | refine aw1 ?_ | (refine abx ?_; intro bb) | (refine abz ?_; intro bz) | (refine ahv ?_; intro v' hv') | (refine aac ?_; intro ac cc) | refine aw2 ?_ | (refine ap4 ?_ ?_ <;> try intro h) | apply True.intro)
          ((with_reducible apply fp_ret); exact res_3 rfl rfl rfl rfl)
          exact HR.out _ _ _ [RowsC (.slice a5 X.length c5) (X.map fun x => allK x.key), FilC (.slice a2 B.length c2) B] (takes_imp (by (exact atks)) (plan_alls hYk hY)) ⟨_, _, hpl, a5, c5, a2, c2, by rw [List.length_map], by rw [List.length_map]; rfl⟩
end Go.Proofs.Ytmnehdpclnhmbaa
