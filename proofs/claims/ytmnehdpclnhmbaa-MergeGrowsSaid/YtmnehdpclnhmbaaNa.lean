
/- Parts: what they read as; merge.one, of: their contracts. -/
import Derived.Test.YtmnehdpclnhmbaaBm
import Derived.Test.YtmnehdpclnhmbaaMp
namespace Go.Proofs.Ytmnehdpclnhmbaa
open Go.RowKit Go.Maps Sx

structure PartM where
  fv : Value
  dv : Value
  files : List FileV
  dead : List Int
instance : Inhabited PartM := ⟨⟨.slice none 0 0, .slice none 0 0, [], []⟩⟩
def encMp (x : PartM) : List Value := [x.fv, x.dv]
def PartM.key (x : PartM) : PartK := ⟨x.files.map FileV.key, x.dead⟩
def PartR (r : Hp) (x : PartM) : Prop := Files r x.fv x.files ∧ Els r 1 encJ x.dv x.dead
abbrev PartsR (r : Hp) (v : Value) (X : List PartM) : Prop := Els r 2 encMp v X ∧ ∀ x ∈ X, PartR r x
theorem PartR.mono {r r' : Hp} {x : PartM} (h : PartR r x) (hr : sub r r') : PartR r' x := ⟨⟨h.1.1.mono hr, fun f hf => (h.1.2 f hf).mono hr⟩, h.2.mono hr⟩
set_option maxRecDepth 10000 in
set_option maxHeartbeats 2000000 in
theorem mone_any (r : Hp) (fv dv : Value) (fs : List FileV) (dead : List Int) (hf : Files r fv fs) (hd : Els r 1 encJ dv dead) (hp : ∀ f ∈ fs, f.path.length ≤ 1000000) : Tri Try.prog r 41 [.agg [fv, dv].toArray] [] fun w H => w = .bool (oneOk ⟨fs.map FileV.key, dead⟩) ∧ H = [] := by
  refine Tri.free2 fun R HR => ?_
  have hfo := filesOk_any r fv fs hf hp
  rw [filesOk_key] at hfo
  unfold oneOk at HR
  dsimp only at HR
  rw [List.length_map] at HR
  have hfe := hf.1
  have hf1 := hf.1.one
  have hd1 := hd.one
  have hdl := hd.2.2.1
  unfold maxLen at hdl
  generalize filesOkK (fs.map FileV.key) = q at hfo HR
  refine fn_of_sw Try.func41 rfl _ rfl ?_; refine aen Try.ntmps41 ?_
  repeat' (first | ((with_reducible apply kx_box); rfl; (exact qcl); intro b; (refine apk ?_)) | refine aw0 ?_ | (refine ap2 ?_ ?_ <;> try intro h) | refine aw1 ?_ | (refine abx ?_; intro bb) | (refine abz ?_; intro bz) | (refine ahv ?_; intro v' hv') | (refine aac ?_; intro ac cc) | refine aw2 ?_ | (refine ap4 ?_ ?_ <;> try intro h) | apply True.intro)
  refine sw_loop (fun gm t H' => ∃ (k : Nat) (last : Int), gm = dead.length + 1 - k ∧ (k ≤ dead.length) ∧ (risI fs.length (-1) dead = risI fs.length last (dead.drop k)) ∧ (∃ G, Takes [pt b (.cells [fv, dv].toArray 36 (0, 0))] H' G) ∧ Sls t 28 [(1, .pointer (some ⟨b, 0, none⟩)), (3, .int .i64 last), (7, dv), (8, .int .i64 dead.length), (9, .int .i64 k)]) _ ⟨0, -1, rfl, Nat.zero_le _, rfl, ⟨_, atks⟩, asls⟩ ?_
  rintro gm t H' ⟨k, last, rfl, hk, hI, ⟨G, hp⟩, hs'⟩
  revert t; refine sls_all ?_; iterate 23 intro uu'
  refine sw_takeG hp ?_; clear hp
  by_cases hlt : k < dead.length
  · have hdr : dead.drop k = dead.getD k default :: dead.drop (k + 1) := by
      rw [List.drop_eq_getElem_cons hlt, List.getD_eq_getElem?_getD, List.getElem?_eq_getElem hlt]; rfl
    rw [hdr, show risI fs.length last (dead.getD k default :: dead.drop (k + 1)) = (decide (last < dead.getD k default) && decide (dead.getD k default < fs.length) && risI fs.length (dead.getD k default) (dead.drop (k + 1))) from rfl] at hI
    obtain ⟨x, hx⟩ : ∃ x, dead.getD k default = x := ⟨_, rfl⟩
    rw [hx] at hI
    by_cases h1 : last < x
    · by_cases h2 : x < fs.length
      · rw [decide_eq_true h1, decide_eq_true h2] at hI
        repeat' (first | (rw [hx]) | (exfalso; first | contradiction | omega) | refine aw0 ?_ | (refine ap2 ?_ ?_ <;> try intro h) | refine aw1 ?_ | (refine abx ?_; intro bb) | (refine abz ?_; intro bz) | (refine ahv ?_; intro v' hv') | (refine aac ?_; intro ac cc) | refine aw2 ?_ | (refine ap4 ?_ ?_ <;> try intro h) | apply True.intro)
        exact ⟨_, by omega, k + 1, x, rfl, by omega, hI, ⟨_, atks⟩, asls⟩
      · rw [decide_eq_false h2, Bool.and_false, Bool.false_and] at hI
        rw [hI] at HR
        repeat' (first | (rw [hx]) | (exfalso; first | contradiction | omega) | refine aw0 ?_ | (refine ap2 ?_ ?_ <;> try intro h) | refine aw1 ?_ | (refine abx ?_; intro bb) | (refine abz ?_; intro bz) | (refine ahv ?_; intro v' hv') | (refine aac ?_; intro ac cc) | refine aw2 ?_ | (refine ap4 ?_ ?_ <;> try intro h) | apply True.intro)
        ((with_reducible apply fp_ret); exact res_1 rfl rfl)
        exact HR.out _ _ _ [] Takes.all ⟨rfl, rfl⟩
    · rw [decide_eq_false h1, Bool.false_and, Bool.false_and] at hI
      rw [hI] at HR
      repeat' (first | (rw [hx]) | (exfalso; first | contradiction | omega) | refine aw0 ?_ | (refine ap2 ?_ ?_ <;> try intro h) | refine aw1 ?_ | (refine abx ?_; intro bb) | (refine abz ?_; intro bz) | (refine ahv ?_; intro v' hv') | (refine aac ?_; intro ac cc) | refine aw2 ?_ | (refine ap4 ?_ ?_ <;> try intro h) | apply True.intro)
      all_goals
        ((with_reducible apply fp_ret); exact res_1 rfl rfl)
        exact HR.out _ _ _ [] Takes.all ⟨rfl, rfl⟩
  · rw [List.drop_of_length_le (by omega), show risI fs.length last [] = true from rfl] at hI
    rw [hI] at HR
    repeat' (first | (refine acl Try.func11 ?_; refine acr (hfo) ?_; rintro v' H' ⟨rfl, rfl⟩; all_goals refine apl ?_) | (exfalso; first | contradiction | omega) | refine aw0 ?_ | (refine ap2 ?_ ?_ <;> try intro h) | refine aw1 ?_ | (refine abx ?_; intro bb) | (refine abz ?_; intro bz) | (refine ahv ?_; intro v' hv') | (refine aac ?_; intro ac cc) | refine aw2 ?_ | (refine ap4 ?_ ?_ <;> try intro h) | apply True.intro)
    ((with_reducible apply fp_ret); exact res_1 rfl rfl)
    exact HR.out _ _ _ [] Takes.all ⟨rfl, rfl⟩
/-- The dead ones, as a map tells them. -/
def deadM (d : List Int) : Lit → Option Value := d.foldl (fun M x => upd M (.int .i64 x) (.bool true)) fun _ => none
theorem upd_int {M : Lit → Option Value} {x j : Int} {v : Value} : upd M (.int .i64 x) v (.int .i64 j) = if j = x then some v else M (.int .i64 j) := by
  by_cases e : j = x
  · subst e
    rw [if_pos rfl]
    exact upd_same trivial
  · rw [if_neg e]
    exact upd_other (fun h => e (by injection h))
theorem deadM_fold : ∀ (d : List Int) (M : Lit → Option Value) (j : Int), d.foldl (fun M x => upd M (.int .i64 x) (.bool true)) M (.int .i64 j) = if j ∈ d then some (.bool true) else M (.int .i64 j)
  | [], M, j => by simp
  | x :: d, M, j => by
    rw [List.foldl_cons, deadM_fold d, upd_int]
    by_cases h : j ∈ d
    · rw [if_pos h, if_pos (List.mem_cons_of_mem _ h)]
    · rw [if_neg h]
      by_cases e : j = x
      · rw [if_pos e, if_pos (by rw [e]; simp)]
      · rw [if_neg e, if_neg (fun h2 => (List.mem_cons.1 h2).elim e h)]
theorem deadM_get (d : List Int) (j : Int) : deadM d (.int .i64 j) = if j ∈ d then some (.bool true) else none := deadM_fold d _ j
set_option maxRecDepth 10000 in
set_option maxHeartbeats 2000000 in
theorem mof_any (r : Hp) (fv dv : Value) (dead : List Int) (hd : Els r 1 encJ dv dead) (fs : List FileV) (hf : Els r 2 encF fv fs) (hw : ∀ d ∈ dead, 0 ≤ d ∧ d ≤ 1000000000) : Tri Try.prog r 20 [.agg [fv, dv].toArray] [] fun w H => ∃ bm, w = .agg [fv, dv, .map (some bm)].toArray ∧ H = [MapC Try.prog 3 bm dead.length (deadM dead)] := by
  refine Tri.free2 fun R HR => ?_
  have hd1 := hd.one
  have hdl := hd.2.2.1
  unfold maxLen at hdl
  refine fn_of_sw Try.func20 rfl _ rfl ?_; refine aen Try.ntmps20 ?_
  repeat' (first | ((with_reducible apply kx_box); rfl; (exact qcl); intro b1; (refine apk ?_)) | refine aw0 ?_ | (refine ap2 ?_ ?_ <;> try intro h) | refine aw1 ?_ | (refine abx ?_; intro bb) | (refine abz ?_; intro bz) | (refine ahv ?_; intro v' hv') | (refine aac ?_; intro ac cc) | refine aw2 ?_ | (refine ap4 ?_ ?_ <;> try intro h) | apply True.intro)
  repeat' (first | ((with_reducible apply kx_mmake 3); intro bm; (refine apk ?_)) | ((with_reducible apply kx_alloc (E := 68)); exact ty_zero; (exact qcl); intro b2; (refine apk ?_)) | refine aw0 ?_ | (refine ap2 ?_ ?_ <;> try intro h) | refine aw1 ?_ | (refine abx ?_; intro bb) | (refine abz ?_; intro bz) | (refine ahv ?_; intro v' hv') | (refine aac ?_; intro ac cc) | refine aw2 ?_ | (refine ap4 ?_ ?_ <;> try intro h) | apply True.intro)
  refine sw_loop (fun gm t H' => ∃ k : Nat, gm = dead.length + 1 - k ∧ (k ≤ dead.length) ∧ (∃ G, Takes [pt b2 (.cells [fv, dv, .map (some bm)].toArray 68 (0, 0)), MapC Try.prog 3 bm k (deadM (dead.take k)), pt bb (.cells [.slice none 0 0, .slice none 0 0, .map none].toArray 68 (0, 0))] H' G) ∧ Sls t 21 [(2, .pointer (some ⟨bb, 0, none⟩)), (3, .pointer (some ⟨b2, 0, none⟩)), (10, dv), (11, .int .i64 dead.length), (12, .int .i64 k)]) _ ⟨0, rfl, Nat.zero_le _, ⟨_, by rw [List.take_zero, show deadM [] = fun _ => none from rfl]; exact atks⟩, asls⟩ ?_
  rintro gm t H' ⟨k, rfl, hk, ⟨G, hp⟩, hs'⟩
  revert t; refine sls_all ?_; iterate 16 intro uu'
  refine sw_takeG hp ?_; clear hp
  by_cases hlt : k < dead.length
  · obtain ⟨x, hx⟩ : ∃ x, dead.getD k default = x := ⟨_, rfl⟩
    have hxm : x ∈ dead := hx ▸ getDm hlt
    have hxw := hw x hxm
    have hkey : keyOf Try.prog 3 (.int .i64 x) = some (.int .i64 x) := keyOf_int_mk Try.underlying3 (by simp [Lit.wf, IntKind.min, IntKind.max, IntKind.signed, IntKind.bits]; omega)
    have htk : dead.take (k + 1) = dead.take k ++ [x] := by rw [take_getD (d := default) hlt, hx]
    have hM : deadM (dead.take (k + 1)) = upd (deadM (dead.take k)) (.int .i64 x) (.bool true) := by
      rw [htk]; unfold deadM; rw [List.foldl_append]; rfl
    repeat' (first | (rw [hx]) | ((with_reducible apply kx_mput (kt := 3) (et := 4)); kernel_rfl; exact (int_keyed Try.underlying3); rfl; rfl; rfl; exact hkey; (exact atk); (unfold maxLen; omega); (refine apk ?_)) | (exfalso; first | contradiction | omega) | refine aw0 ?_ | (refine ap2 ?_ ?_ <;> try intro h) | refine aw1 ?_ | (refine abx ?_; intro bb) | (refine abz ?_; intro bz) | (refine ahv ?_; intro v' hv') | (refine aac ?_; intro ac cc) | refine aw2 ?_ | (refine ap4 ?_ ?_ <;> try intro h) | apply True.intro)
    exact ⟨_, by omega, k + 1, rfl, by omega, ⟨_, by rw [hM]; exact atks⟩, asls⟩
  · obtain rfl : k = dead.length := by omega
    rw [List.take_length]
    repeat' (first | (exfalso; first | contradiction | omega) | refine aw0 ?_ | (refine ap2 ?_ ?_ <;> try intro h) | refine aw1 ?_ | (refine abx ?_; intro bb) | (refine abz ?_; intro bz) | (refine ahv ?_; intro v' hv') | (refine aac ?_; intro ac cc) | refine aw2 ?_ | (refine ap4 ?_ ?_ <;> try intro h) | apply True.intro)
    ((with_reducible apply fp_ret); exact res_W rfl rfl (by (exact atk)) ty_agg ty_size rfl)
    exact HR.out _ _ _ [MapC _ _ _ _ _] (by (exact atks)) ⟨bm, rfl, rfl⟩
theorem mliving_any (r : Hp) (fv dv : Value) (fs : List FileV) (dead : List Int) (bm : Nat) (hf : Els r 2 encF fv fs) (hd : Els r 1 encJ dv dead) : Tri Try.prog r 21 [.agg [fv, dv, .map (some bm)].toArray] [] fun w H => ∃ b, w = .func (.func 47) #[] #[.pointer (some ⟨b, 0, none⟩)] ∧ H = [pt b (.cells [fv, dv, .map (some bm)].toArray 68 (0, 0))] := by
  refine Tri.free2 fun R HR => ?_
  have hf1 := hf.one
  have hd1 := hd.one
  refine fn_of_sw Try.func21 rfl _ rfl ?_; refine aen Try.ntmps21 ?_
  repeat' (first | ((with_reducible apply kx_box); rfl; (exact qcl); intro b; (refine apk ?_)) | refine aw0 ?_ | (refine ap2 ?_ ?_ <;> try intro h) | refine aw1 ?_ | (refine abx ?_; intro bb) | (refine abz ?_; intro bz) | (refine ahv ?_; intro v' hv') | (refine aac ?_; intro ac cc) | refine aw2 ?_ | (refine ap4 ?_ ?_ <;> try intro h) | apply True.intro)
  ((with_reducible apply fp_ret); exact res_1 rfl rfl)
  exact HR.out _ _ _ [pt _ _] (by (exact atks)) ⟨b, rfl, rfl⟩
/-- The files that are not dead, with their numbers. -/
def livV (d : List Int) : Nat → List FileV → List (Nat × FileV)
  | _, [] => []
  | k, f :: fs => if (k : Int) ∈ d then livV d (k + 1) fs else (k, f) :: livV d (k + 1) fs
theorem livV_key (d : List Int) : ∀ (fs : List FileV) (k : Nat), (livV d k fs).map (fun x => (x.1, x.2.key)) = livF d k (fs.map FileV.key)
  | [], _ => rfl
  | f :: fs, k => by
    rw [List.map_cons]
    unfold livV livF
    split
    · exact livV_key d fs (k + 1)
    · rw [List.map_cons, livV_key d fs (k + 1)]
theorem livV_mem {d : List Int} : ∀ {fs : List FileV} {k : Nat} {x : Nat × FileV}, x ∈ livV d k fs → x.2 ∈ fs
  | [], _, _, h => by cases h
  | f :: fs, k, x, h => by
    unfold livV at h
    split at h
    · exact List.mem_cons_of_mem _ (livV_mem h)
    · rcases List.mem_cons.1 h with rfl | h
      · exact List.mem_cons_self
      · exact List.mem_cons_of_mem _ (livV_mem h)
def tellN (x : Nat × FileV) : List Value := [.int .i64 x.1, .agg (encF x.2).toArray]
abbrev wbox (b : Nat) (fv dv : Value) (bm : Nat) : Ch := pt b (.cells [fv, dv, .map (some bm)].toArray 68 (0, 0))
set_option maxRecDepth 10000 in
set_option maxHeartbeats 4000000 in
theorem living_seq (r : Hp) (b bm n : Nat) (fv dv : Value) (fs : List FileV) (dead : List Int) (hf : Files r fv fs) :
    Seq Try.prog r 47 [.pointer (some ⟨b, 0, none⟩)] tellN (livV dead 0 fs) [wbox b fv dv bm, MapC Try.prog 3 bm n (deadM dead)] [] := by
  intro k J Jx hy
  obtain ⟨X, hX0⟩ : ∃ X, livV dead 0 fs = X := ⟨_, rfl⟩
  rw [hX0] at hy ⊢
  refine Tri.free2 fun R HR => ?_
  obtain ⟨hfe, hfb⟩ := hf
  have hfl := hfe.2.2.1
  unfold maxLen at hfl
  refine fn_of_sw Try.func47 rfl _ rfl ?_; refine aen Try.ntmps47 ?_
  repeat' (first | refine aw0m ?_ | (refine ap2 ?_ ?_ <;> try intro h) | refine aw1m ?_ | (refine abx ?_; intro bb) | (refine abz ?_; intro bz) | (refine ahv ?_; intro v' hv') | (refine aac ?_; intro ac cc) | refine aw2 ?_ | (refine ap4 ?_ ?_ <;> try intro h) | apply True.intro)
  refine sw_loop (fun gm t H' => ∃ (m i : Nat), gm = fs.length + 1 - m ∧ (m ≤ fs.length) ∧ (i ≤ X.length) ∧ (X.drop i = livV dead m (fs.drop m)) ∧ (∃ G, Takes [wbox b fv dv bm, MapC Try.prog 3 bm n (deadM dead), J i] H' G) ∧ Sls t 24 [(0, .func (.yield k) #[] #[]), (1, .pointer (some ⟨b, 0, none⟩)), (7, fv), (8, .int .i64 fs.length), (9, .int .i64 m)]) _ ⟨0, 0, rfl, Nat.zero_le _, Nat.zero_le _, hX0.symm, ⟨_, atks⟩, asls⟩ ?_
  rintro gm t H' ⟨m, i, rfl, hm, hi, hX, ⟨G, hp⟩, hs'⟩
  revert t; refine sls_all ?_; iterate 19 intro uu'
  refine sw_takeG hp ?_; clear hp
  by_cases hlt : m < fs.length
  · obtain ⟨f, hg⟩ : ∃ f, fs.getD m default = f := ⟨_, rfl⟩
    have hfm : f ∈ fs := hg ▸ getDm hlt
    have hdr : livV dead m (fs.drop m) = if (m : Int) ∈ dead then livV dead (m + 1) (fs.drop (m + 1)) else (m, f) :: livV dead (m + 1) (fs.drop (m + 1)) := by
      rw [drop1 hlt, hg]; rfl
    rw [hdr] at hX
    have hfv := hfb f hfm
    obtain ⟨p, v, d⟩ := f
    dsimp only at hfv
    have hfe2 : encF ⟨p, v, d⟩ = [.string (bs p), v] := rfl
    have hkey : keyOf Try.prog 3 (.int .i64 m) = some (.int .i64 m) := keyOf_int_mk Try.underlying3 (by simp [Lit.wf, IntKind.min, IntKind.max, IntKind.signed, IntKind.bits]; omega)
    have hM := deadM_get dead m
    have hMv : (if false = true then Value.tuple #[(deadM dead (.int .i64 m)).getD (.bool false), .bool (deadM dead (.int .i64 m)).isSome] else (deadM dead (.int .i64 m)).getD (.bool false)) = .bool (decide ((m : Int) ∈ dead)) := by
      rw [hM]
      by_cases hd : (m : Int) ∈ dead
      · rw [if_pos hd, decide_eq_true hd]; rfl
      · rw [if_neg hd, decide_eq_false hd]; rfl
    by_cases hd : (m : Int) ∈ dead
    · rw [if_pos hd] at hX
      rw [decide_eq_true hd] at hMv
      repeat' (first | (rw [hg, hfe2]) | (rw [hMv]) | ((with_reducible apply kx_alloc (E := 42)); exact ty_zero; (exact qcl); intro b4; (refine apk ?_)) | ((with_reducible apply kx_mget (kt := 3) (et := 4)); kernel_rfl; exact (int_keyed Try.underlying3); exact ty_zero; rfl; rfl; exact hkey; (exact atk); (refine apk ?_)) | (exfalso; first | contradiction | omega) | refine aw0 ?_ | (refine ap2 ?_ ?_ <;> try intro h) | refine aw1 ?_ | (refine abx ?_; intro bb) | (refine abz ?_; intro bz) | (refine ahv ?_; intro v' hv') | (refine aac ?_; intro ac cc) | refine aw2 ?_ | (refine ap4 ?_ ?_ <;> try intro h) | apply True.intro)
      exact ⟨_, by omega, m + 1, i, rfl, by omega, hi, hX, ⟨_, atks⟩, asls⟩
    · rw [if_neg hd] at hX
      rw [decide_eq_false hd] at hMv
      have hXi : X[i]? = some (m, ⟨p, v, d⟩) := by
        have h : (X.drop i)[0]? = some (m, ⟨p, v, d⟩) := by rw [hX]; rfl
        rwa [List.getElem?_drop, Nat.add_zero] at h
      obtain ⟨hlx, hxe⟩ := List.getElem?_eq_some_iff.1 hXi
      have hyp := hy i hlx
      rw [hxe, show tellN (m, ⟨p, v, d⟩) = [.int .i64 m, .agg [.string (bs p), v].toArray] from rfl] at hyp
      have hX2 : X.drop (i + 1) = livV dead (m + 1) (fs.drop (m + 1)) := by rw [← List.drop_drop, hX]; rfl
      repeat' (first | (rw [hg, hfe2]) | (rw [hMv]) | ((with_reducible apply kx_alloc (E := 42)); exact ty_zero; (exact qcl); intro b4; (refine apk ?_)) | ((with_reducible apply kx_mget (kt := 3) (et := 4)); kernel_rfl; exact (int_keyed Try.underlying3); exact ty_zero; rfl; rfl; exact hkey; (exact atk); (refine apk ?_)) | ((with_reducible apply kx_yield); rfl; exact (hyp); rfl; (exact atk); all_goals (refine apk ?_)) | (exfalso; first | contradiction | omega) | refine aw0 ?_ | (refine ap2 ?_ ?_ <;> try intro h) | refine aw1 ?_ | (refine abx ?_; intro bb) | (refine abz ?_; intro bz) | (refine ahv ?_; intro v' hv') | (refine aac ?_; intro ac cc) | refine aw2 ?_ | (refine ap4 ?_ ?_ <;> try intro h) | apply True.intro)
      · exact ⟨_, by omega, m + 1, i + 1, rfl, by omega, by omega, hX2, ⟨_, atks⟩, asls⟩
      · ((with_reducible apply fp_ret); exact res_0 rfl)
        exact HR.out _ _ _ [Jx (i + 1)] (by (exact atks)) (.inr ⟨i, [], hlx, rfl⟩)
  · rw [show fs.drop m = [] from List.drop_of_length_le (by omega), show livV dead m [] = [] from rfl] at hX
    have hiX : i = X.length := by have h := congrArg List.length hX; rw [List.length_drop, List.length_nil] at h; omega
    subst hiX
    repeat' (first | (exfalso; first | contradiction | omega) | refine aw0 ?_ | (refine ap2 ?_ ?_ <;> try intro h) | refine aw1 ?_ | (refine abx ?_; intro bb) | (refine abz ?_; intro bz) | (refine ahv ?_; intro v' hv') | (refine aac ?_; intro ac cc) | refine aw2 ?_ | (refine ap4 ?_ ?_ <;> try intro h) | apply True.intro)
    ((with_reducible apply fp_end); exact res_0 rfl)
    exact HR.out _ _ _ [J X.length] (by (exact atks)) (.inl rfl)
end Go.Proofs.Ytmnehdpclnhmbaa
