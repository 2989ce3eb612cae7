
/- (*merge.plan).part: its contract. -/
import Derived.Test.YtmnehdpclnhmbaaNe
import Derived.Test.YtmnehdpclnhmbaaSt
namespace Go.Proofs.Ytmnehdpclnhmbaa
open Go.RowKit Go.Maps Sx

abbrev pbox (b : Nat) (dv fv : Value) (m : Nat) : Ch := pt b (.cells [dv, fv, .int .i64 m].toArray 58 (0, 0))
theorem goneN_app (A B : List (Nat × FileV)) (d : List ChK) : goneN (A ++ B) d = goneN A d ++ goneN B d := by unfold goneN; rw [List.filter_append, List.map_append]
theorem row_len (p : PartK) (d : List ChK) : (rowK p d).length ≤ p.files.length := by
  unfold rowK
  rw [List.length_map]
  refine Nat.le_trans (List.length_filter_le _ _) ?_
  rw [List.length_range]
  exact Nat.le_refl _
def one01 (b : Bool) : Nat := if b then 1 else 0
set_option maxRecDepth 10000 in
set_option maxHeartbeats 8000000 in
theorem part_any (r : Hp) (bx bg ng n c many : Nat) (a : Option Addr) (fv1 : Value) (zs : List Value) (x : PartM) (d : List ChK) (M : Lit → Option Value) (hx : PartR r x) (ho : oneOk x.key = true) (hp : ∀ f ∈ x.files, f.path.length ≤ 1000000) (hM : ∀ s, (M (.string s)).getD (.bool false) = .bool (hasP d s)) (hn : n ≤ 1000000) (hm : many ≤ 1000000) (_hf1 : one? fv1 = true) :
    Tri Try.prog r 18 [.pointer (some ⟨bx, 0, none⟩), .agg (encMp x).toArray, .map (some bg)] [pbox bx (.slice a n c) fv1 many, RowC 34 1 (.slice a n c) n zs, MapC Try.prog 9 bg ng M] fun _ H => ∃ a' c' a2 c2, H = [pbox bx (.slice a' (n + 1) c') fv1 (many + one01 (decide ((rowK x.key d).length < x.key.files.length))), RowC 34 1 (.slice a' (n + 1) c') (n + 1) (zs ++ [.slice a2 (rowK x.key d).length c2]), RowC 3 1 (.slice a2 (rowK x.key d).length c2) (rowK x.key d).length ((rowK x.key d).flatMap encJ), MapC Try.prog 9 bg ng M] := by
  refine Tri.free2 fun R HR => ?_
  have hd9 := one_dead' ho
  have hrs := row_sort ho d
  have hrl := row_lives x d
  obtain ⟨fv, dv, fs, dead⟩ := x
  obtain ⟨hxf, hxd⟩ := hx
  dsimp only at hxf hxd hd9 hp hrs hrl
  show Tri _ _ _ [_, .agg [fv, dv].toArray, _] _ _
  have hfe := hxf.1
  have hfe1 := hfe.one
  have hd1 := hxd.one
  obtain ⟨RK, hRK⟩ : ∃ RK, rowK (⟨fv, dv, fs, dead⟩ : PartM).key d = RK := ⟨_, rfl⟩
  rw [hRK] at hrs hrl HR
  obtain ⟨V, hV⟩ : ∃ V, livV dead 0 fs = V := ⟨_, rfl⟩
  rw [hV] at hrs hrl
  have hVl := livV_len dead fs 0
  have hVm := fun y (hy : y ∈ V) => livV_mem (d := dead) (fs := fs) (k := 0) (x := y) (by rw [hV]; exact hy)
  have hsq := fun bw bq => living_seq r bw bq dead.length fv dv fs dead hxf
  have hdl := hxd.2.2.1
  have hdn : dead.length ≤ 1000000 := by
    have h1 := row_len (⟨fv, dv, fs, dead⟩ : PartM).key []
    rw [row_nil ho] at h1
    have h2 : dead.length ≤ (fs.map FileV.key).length := h1
    rw [List.length_map] at h2
    omega
  have hcl := cloneIn_any r dv dead hxd (encJ_one dead) hdn
  rw [hV] at hVl hsq
  refine fn_of_sw Try.func18 rfl _ rfl ?_; refine aen Try.ntmps18 ?_
  repeat' (first | ((with_reducible apply kx_box); rfl; (exact qcl); intro b4; (refine apk ?_)) | ((with_reducible apply kx_alloc (E := 34)); exact ty_zero; (exact qcl); intro b6; (refine apk ?_)) | ((with_reducible apply kx_alloc (E := 3)); exact ty_zero; (exact qcl); intro b7; (refine apk ?_)) | (refine acl Try.func44 ?_; refine acr (hcl) ?_; rintro v' H' ⟨a3, c3, rfl, rfl⟩; all_goals refine apl ?_) | (refine acl Try.func20 ?_; refine acr (mof_any r fv dv dead hxd fs hfe hd9.1) ?_; rintro v' H' ⟨bq, rfl, rfl⟩; all_goals refine apl ?_) | (refine acl Try.func21 ?_; refine acr (mliving_any r fv dv fs dead bq hfe hxd) ?_; rintro v' H' ⟨bw, rfl, rfl⟩; all_goals refine apl ?_) | (exfalso; first | contradiction | omega) | refine aw0 ?_ | (refine ap2 ?_ ?_ <;> try intro h) | refine aw1 ?_ | (refine abx ?_; intro bb) | (refine abz ?_; intro bz) | (refine ahv ?_; intro v' hv') | (refine aac ?_; intro ac cc) | refine aw2 ?_ | (refine ap4 ?_ ?_ <;> try intro h) | apply True.intro)
  refine sw_range rfl (goesOf Try.func47 (by kernel_rfl) rfl) (hsq bw bq) (by (exact atks)) (fun _ => rfl)
    (fun j H => ∃ (a6 : Option Addr) (c6 : Nat), ∃ G, Takes [pt b6 (.cells [.slice a6 (dead ++ goneN (V.take j) d).length c6].toArray 34 (0, 0)), RowC 3 1 (.slice a6 (dead ++ goneN (V.take j) d).length c6) (dead ++ goneN (V.take j) d).length ((dead ++ goneN (V.take j) d).flatMap encJ), pt b7 (.cells [.int .i64 (one01 ((V.take j).any fun y => !hasP d y.2.path) : Nat)].toArray 3 (0, 0)), pt b4 (.cells [.map (some bg)].toArray 59 (0, 0)), MapC Try.prog 9 bg ng M, pbox bx (.slice a n c) fv1 many, RowC 34 1 (.slice a n c) n zs] H G)
    (fun _ _ _ => False) ?_ ?_ ?_ ?_
  · exact ⟨a3, c3, _, by rw [List.take_zero, show goneN [] d = [] from rfl, List.append_nil]; (exact atks)⟩
  · rintro kk i hi H ⟨a6, c6, G, hp6⟩
    obtain ⟨⟨q, fp, fv2, fd⟩, hxi⟩ : ∃ y, V[i] = y := ⟨_, rfl⟩
    have hym : V[i] ∈ V := List.getElem_mem hi
    have htv : V.take (i + 1) = V.take i ++ [(q, ⟨fp, fv2, fd⟩)] := by rw [List.take_succ_eq_append_getElem hi, hxi]
    rw [hxi] at hym
    have hfm := hVm _ hym
    have hfb := hxf.2 _ hfm
    have hfp := hp _ hfm
    dsimp only at hfb hfp
    have hMg := hM fp
    have hgl : (dead ++ goneN (V.take i) d).length ≤ 2000000 := by
      have h1 : (goneN (V.take i) d).length ≤ V.length := by
        unfold goneN
        rw [List.length_map]
        exact Nat.le_trans (List.length_filter_le _ _) (by rw [List.length_take]; omega)
      rw [List.length_append]
      have h2 := hd9.2
      have h3 : fs.length ≤ 4000 := h2
      omega
    obtain ⟨L, hL⟩ : ∃ L, dead ++ goneN (V.take i) d = L := ⟨_, rfl⟩
    have hLn : dead ++ goneN (V.take (i + 1)) d = L ++ (if hasP d fp then [(q : Int)] else []) := by
      rw [htv, goneN_app, ← List.append_assoc, hL]
      congr 1
      unfold goneN
      rw [List.filter_cons]
      cases hasP d fp <;> rfl
    have hAn : (V.take (i + 1)).any (fun y => !hasP d y.2.path) = ((V.take i).any (fun y => !hasP d y.2.path) || !hasP d fp) := by
      rw [htv, List.any_append, List.any_cons, List.any_nil, Bool.or_false]
    rw [hL] at hp6 hgl
    generalize (V.take i).any (fun y => !hasP d y.2.path) = w1 at hp6 hAn
    refine sw_takeG hp6 ?_
    clear hp6
    rw [hxi, show tellN (q, ⟨fp, fv2, fd⟩) = [.int .i64 q, .agg [.string (bs fp), fv2].toArray] from rfl]
    refine sw_pars2 ?_
    (refine apk ?_)
    refine then2_mk ?_
    (refine apk ?_)
    cases hg : hasP d fp
    · rw [hg] at hMg hLn hAn
      repeat' (first | ((with_reducible apply kx_alloc (E := 42)); exact ty_zero; (exact qcl); intro b9; (refine apk ?_)) | ((with_reducible apply kx_mgetF (kt := 9) (et := 4) (g := fp)); kernel_rfl; exact Try.underlying9; exact ty_zero; rfl; rfl; (unfold maxLen; omega); (exact atk); exact hMg; (refine apk ?_)) | (exfalso; first | contradiction | omega) | refine aw0 ?_ | (refine ap2 ?_ ?_ <;> try intro h) | refine aw1 ?_ | (refine abx ?_; intro bb) | (refine abz ?_; intro bz) | (refine ahv ?_; intro v' hv') | (refine aac ?_; intro ac cc) | refine aw2 ?_ | (refine ap4 ?_ ?_ <;> try intro h) | apply True.intro)
      refine ⟨a6, c6, ?_⟩
      apply Exists.intro
      rw [show dead ++ goneN (V.take (i + 1)) d = L by rw [hLn]; simp, show ((V.take (i + 1)).any fun y => !hasP d y.2.path) = true by rw [hAn]; simp, show ((one01 true : Nat) : Int) = 1 from rfl]
      (exact atks)
    · rw [hg] at hMg hLn hAn
      repeat' (first | ((with_reducible apply kx_alloc (E := 42)); exact ty_zero; (exact qcl); intro b9; (refine apk ?_)) | ((with_reducible apply kx_mgetF (kt := 9) (et := 4) (g := fp)); kernel_rfl; exact Try.underlying9; exact ty_zero; rfl; rfl; (unfold maxLen; omega); (exact atk); exact hMg; (refine apk ?_)) | (first | ((with_reducible apply kx_bs1); exact ty_el; exact ty_inf; rfl; rfl; rfl; intro bz; (refine apk ?_)) | ((with_reducible apply kx_bsN); exact ty_el; exact ty_inf; rfl; rfl; rfl; intro bz; (refine apk ?_))) | ((with_reducible refine swo_isApp ?_); (with_reducible apply kx_lend [(bz, .cells [.int .i64 q].toArray 3 (0, 0))]); (exact atks); intro r5 hl5; (with_reducible apply kx_appS (news := [.int .i64 q])); exact ty_el; exact ty_inf; rfl; rfl; rfl; rfl; exact (Sl.lit (n := 1) (Lent.h1 hl5) rfl (by simp [maxLen])); (exact atk); rfl; (unfold maxLen; omega); (omega); intro a' c'; refine apm ?_) | (exfalso; first | contradiction | omega) | refine aw0 ?_ | (refine ap2 ?_ ?_ <;> try intro h) | refine aw1 ?_ | (refine abx ?_; intro bb) | (refine abz ?_; intro bz) | (refine ahv ?_; intro v' hv') | (refine aac ?_; intro ac cc) | refine aw2 ?_ | (refine ap4 ?_ ?_ <;> try intro h) | apply True.intro)
      refine ⟨a', c', ?_⟩
      apply Exists.intro
      rw [show dead ++ goneN (V.take (i + 1)) d = L ++ [(q : Int)] by rw [hLn]; simp, show ((V.take (i + 1)).any fun y => !hasP d y.2.path) = w1 by rw [hAn]; simp, List.length_append, List.length_singleton, List.flatMap_append, show [(q : Int)].flatMap encJ = [.int .i64 q] from rfl]
      (exact atks)
  · rintro H ⟨a6, c6, G, hp6⟩
    rw [List.take_length] at hp6
    refine sw_takeG hp6 ?_
    clear hp6
    obtain ⟨L, hL⟩ : ∃ L, dead ++ goneN V d = L := ⟨_, rfl⟩
    rw [hL] at hrs ⊢
    have hLl : L.length ≤ 2000000 := by
      have h1 : (goneN V d).length ≤ V.length := by
        unfold goneN
        rw [List.length_map]
        exact List.length_filter_le _ _
      have h2 : fs.length ≤ 4000 := hd9.2
      rw [← hL, List.length_append]
      omega
    have hso := sortI_tri r a6 c6 L (by omega)
    rw [hrs] at hso
    have hLR : L.length = RK.length := by rw [← hrs, sortI_len]
    obtain ⟨w1, hw1⟩ : ∃ w1, (V.any fun y => !hasP d y.2.path) = w1 := ⟨_, rfl⟩
    rw [hw1] at hrl ⊢
    rw [hrl] at HR
    have hw2 : one01 w1 ≤ 1 := by cases w1 <;> decide
    repeat' (first | (refine acl Try.func45 ?_; refine acr (hso) ?_; rintro v' H' rfl; all_goals refine apl ?_) | ((with_reducible refine swo_isApp ?_); (with_reducible apply kx_lend [(bz, .cells [.slice a6 L.length c6].toArray 34 (0, 0))]); (exact atks); intro r5 hl5; (with_reducible apply kx_appS (news := [.slice a6 L.length c6])); exact ty_el; exact ty_inf; rfl; rfl; rfl; rfl; exact (Sl.lit (n := 1) (Lent.h1 hl5) rfl (by simp [maxLen])); (exact atk); rfl; (unfold maxLen; omega); (omega); intro a' c'; refine apm ?_) | (with_reducible refine tm_leaf ?_) | (with_reducible refine tm_seg ?_) | (with_reducible refine tm_two ?_ ?_) | (with_reducible refine tm_three ?_ ?_ ?_) | ((with_reducible apply sw_drawM (id := 10) 18 (Pm.seg [(0, true), (1, true), (2, true), (3, true), (4, true), (6, true), (9, true), (10, true), (11, true), (13, true)] (Pm.three 5 7 12 (Pm.seg [] (Pm.two 7 12 (Pm.seg [] (Pm.two 8 12 (Pm.seg [(12, false), (14, true), (15, true), (16, true), (17, false)] Pm.leaf) (Pm.seg [(14, true), (8, false), (15, true), (16, true), (17, false)] Pm.leaf))) (Pm.seg [(14, true), (7, false), (8, false), (15, true), (16, true), (17, false)] Pm.leaf))) (Pm.seg [] (Pm.two 5 12 (Pm.seg [] (Pm.two 8 12 (Pm.seg [(12, false), (14, true), (15, true), (16, true), (17, false)] Pm.leaf) (Pm.seg [(14, true), (8, false), (15, true), (16, true), (17, false)] Pm.leaf))) (Pm.seg [(14, true), (5, false), (8, false), (15, true), (16, true), (17, false)] Pm.leaf))) (Pm.seg [(14, true)] (Pm.two 5 7 (Pm.seg [(7, false), (8, false), (15, true), (16, true), (17, false)] Pm.leaf) (Pm.seg [(5, false), (8, false), (15, true), (16, true), (17, false)] Pm.leaf))))) (List.replicate 18 true ++ List.replicate 3 false).toArray [(18, false), (19, false), (20, false)] [(b6, .cells [.slice a6 L.length c6].toArray 34 (0, 0)), (b7, .cells [.int .i64 (one01 w1 : Nat)].toArray 3 (0, 0))]); kernel_rfl; (exact atks); kernel_rfl; intro r' hl') | (exfalso; first | contradiction | omega) | refine aw0 ?_ | (refine ap2 ?_ ?_ <;> try intro h) | refine aw1 ?_ | (refine abx ?_; intro bb) | (refine abz ?_; intro bz) | (refine ahv ?_; intro v' hv') | (refine aac ?_; intro ac cc) | refine aw2 ?_ | (refine ap4 ?_ ?_ <;> try intro h) | apply True.intro)
    all_goals ((with_reducible apply fp_end); exact res_0 rfl)
    all_goals rw [hLR]
    all_goals exact HR.out _ _ _ [pt bx (.cells [.slice a' (n + 1) c', fv1, .int .i64 ((many : Int) + (one01 w1 : Nat))].toArray 58 (0, 0)), RowC 34 1 (.slice a' (n + 1) c') (n + 1) (zs ++ [.slice a6 RK.length c6]), RowC 3 1 (.slice a6 RK.length c6) RK.length (RK.flatMap encJ), MapC Try.prog 9 bg ng M] (by (exact atks)) ⟨a', c', a6, c6, rfl⟩
  · rintro c i H hi h
    exact h.elim
end Go.Proofs.Ytmnehdpclnhmbaa
