
/- mudlarkkit.ApartPostings: its contract. -/
import Derived.Test.YtkbajhiahpkgiaaGreatFq
import Derived.Test.YtkbajhiahpkgiaaGreatFp
import Derived.Test.YtkbajhiahpkgiaaGreatAb
import Derived.Test.YtkbajhiahpkgiaaGreatFb
import Derived.Test.YtkbajhiahpkgiaaGreatGp
import Derived.Test.YtkbajhiahpkgiaaGreatRx
namespace Go.Proofs.YtkbajhiahpkgiaaGreat
open Go.RowKit Sx

/-- A bag that holds but rows of places and of postings. -/
abbrev bagP (w u : Value) : Obj := .cells [.slice none 0 0, .slice none 0 0, .slice none 0 0, .slice none 0 0, .slice none 0 0, .slice none 0 0, .slice none 0 0, .slice none 0 0, .slice none 0 0, .slice none 0 0, .slice none 0 0, .slice none 0 0, w, u, .slice none 0 0, .slice none 0 0, .slice none 0 0, .slice none 0 0, .slice none 0 0, .slice none 0 0, .slice none 0 0].toArray 87 (0, 0)
theorem flatBytes_nil (r : Hp) : Tri Tryz.prog r 79 [.slice none 0 0] [] fun w H => w = .bool true ∧ H = [] :=
  tri_put (A := Fam 0 (fb1 []) (fb0 []) 0) rfl (flatBytes_any r _ [] ⟨fun _ => rfl, Sl.nil _ _⟩ (Nat.zero_le _) (fun x hx => by cases hx))
set_option maxRecDepth 10000 in
set_option maxHeartbeats 1000000 in
theorem putPlaces_any (r : Hp) (g : Nat) (w u : Value) (n : Nat) (xs : List Value) (a : Option Addr) (m c : Nat) (hn : n ≤ 1000000) : Tri Tryz.prog r 114 [.pointer (some ⟨g, 0, none⟩), .slice a m c] [pt g (bagP w u), RowC 38 1 w n xs] fun _ H => ∃ a' c', H = [pt g (bagP (.slice a' (n + 1) c') u), RowC 38 1 (.slice a' (n + 1) c') (n + 1) (xs ++ [.slice a m c])] := by
  refine Tri.free2 fun R HR => ?_
  refine fn_of_sw Tryz.func114 rfl _ rfl ?_; refine aen Tryz.ntmps114 ?_
  repeat' (first | (first | ((with_reducible apply kx_bs1); exact ty_el; exact ty_inf; rfl; rfl; rfl; intro bz; (refine apk ?_)) | ((with_reducible apply kx_bsN); exact ty_el; exact ty_inf; rfl; rfl; rfl; intro bz; (refine apk ?_))) | (first | ((with_reducible apply kx_append1); exact ty_el; exact ty_inf; rfl; rfl; rfl; (exact atk); (exact atk); rfl; (omega); intro a' c'; (refine apk ?_)) | ((with_reducible apply kx_appendN); exact ty_el; exact ty_inf; rfl; rfl; rfl; rfl; (exact atk); (exact atk); rfl; rfl; (omega); intro a' c'; (refine apk ?_))) | refine aw0 ?_ | (refine ap2 ?_ ?_ <;> try intro h) | refine aw1 ?_ | (refine abx ?_; intro bb) | (refine abz ?_; intro bz) | (refine ahv ?_; intro v' hv') | (refine aac ?_; intro ac cc) | refine aw2 ?_ | (refine ap4 ?_ ?_ <;> try intro h) | apply True.intro)
  ((with_reducible apply fp_end); exact res_0 rfl)
  exact HR.out _ _ _ [pt g _, RowC 38 1 _ _ _] (by (exact atks)) ⟨_, _, rfl⟩
set_option maxRecDepth 10000 in
set_option maxHeartbeats 1000000 in
theorem onePosting_any (r : Hp) (g : Nat) (w u : Value) (n : Nat) (xs : List Value) (s : List UInt8) (a : Option Addr) (m c : Nat) (hn : n ≤ 1000000) : Tri Tryz.prog r 73 [.pointer (some ⟨g, 0, none⟩), .agg [.string (bs s), .slice a m c].toArray] [pt g (bagP w u), RowC 38 1 w n xs] fun _ H => ∃ a' c', H = [pt g (bagP (.slice a' (n + 1) c') u), RowC 38 1 (.slice a' (n + 1) c') (n + 1) (xs ++ [.slice a m c])] := by
  refine Tri.free2 fun R HR => ?_
  refine fn_of_sw Tryz.func73 rfl _ rfl ?_; refine aen Tryz.ntmps73 ?_
  repeat' (first | (refine acl Tryz.func114 ?_; refine acr (putPlaces_any r g w u n xs a m c hn) ?_; rintro v' H' ⟨a1, c1, rfl⟩; all_goals refine apl ?_) | refine aw0 ?_ | (refine ap2 ?_ ?_ <;> try intro h) | refine aw1 ?_ | (refine abx ?_; intro bb) | (refine abz ?_; intro bz) | (refine ahv ?_; intro v' hv') | (refine aac ?_; intro ac cc) | refine aw2 ?_ | (refine ap4 ?_ ?_ <;> try intro h) | apply True.intro)
  ((with_reducible apply fp_end); exact res_0 rfl)
  exact HR.out _ _ _ [pt g _, RowC 38 1 _ _ _] (by (exact atks)) ⟨_, _, rfl⟩
/-- The values of postings' places. -/
def valsP (ys : List PostV) : List Value := ys.map (·.val)
set_option maxRecDepth 10000 in
set_option maxHeartbeats 2000000 in
theorem putPostings_any (r : Hp) (g : Nat) (w u : Value) (n m : Nat) (xs zs : List Value) (a : Option Addr) (c : Nat) (ys : List PostV) (hv : Els r 2 encPo (.slice a ys.length c) ys) (hy : ∀ y ∈ ys, ∃ a c, y.val = .slice a y.pl.length c) (hn : n + ys.length ≤ 1000000) (hm : m ≤ 1000000) : Tri Tryz.prog r 39 [.pointer (some ⟨g, 0, none⟩), .slice a ys.length c] [pt g (bagP w u), RowC 38 1 w n xs, RowC 26 1 u m zs] fun _ H => ∃ a1 c1 a2 c2, H = [pt g (bagP (.slice a1 (n + ys.length) c1) (.slice a2 (m + 1) c2)), RowC 38 1 (.slice a1 (n + ys.length) c1) (n + ys.length) (xs ++ valsP ys), RowC 26 1 (.slice a2 (m + 1) c2) (m + 1) (zs ++ [.slice a ys.length c])] := by
  refine Tri.free2 fun R HR => ?_
  refine fn_of_sw Tryz.func39 rfl _ rfl ?_; refine aen Tryz.ntmps39 ?_
  refine sw_form (E := 38) (sz := 1) (v := w) (n := n) (xs := xs) (by (exact atk)) ?_
  rintro ⟨wa, wc, rfl⟩
  repeat' (first | (first | ((with_reducible apply kx_bs1); exact ty_el; exact ty_inf; rfl; rfl; rfl; intro bz; (refine apk ?_)) | ((with_reducible apply kx_bsN); exact ty_el; exact ty_inf; rfl; rfl; rfl; intro bz; (refine apk ?_))) | (first | ((with_reducible apply kx_append1); exact ty_el; exact ty_inf; rfl; rfl; rfl; (exact atk); (exact atk); rfl; (omega); intro a' c'; (refine apk ?_)) | ((with_reducible apply kx_appendN); exact ty_el; exact ty_inf; rfl; rfl; rfl; rfl; (exact atk); (exact atk); rfl; rfl; (omega); intro a' c'; (refine apk ?_))) | refine aw0 ?_ | (refine ap2 ?_ ?_ <;> try intro h) | refine aw1 ?_ | (refine abx ?_; intro bb) | (refine abz ?_; intro bz) | (refine ahv ?_; intro v' hv') | (refine aac ?_; intro ac cc) | refine aw2 ?_ | (refine ap4 ?_ ?_ <;> try intro h) | apply True.intro)
  refine sw_loop (fun gm t H' => ∃ (k : Nat) (a1 : Option Addr) (c1 : Nat), gm = ys.length + 1 - k ∧ (k ≤ ys.length) ∧ (∃ G, Takes [pt g (bagP (.slice a1 (n + k) c1) (.slice a' (m + 1) c')), RowC 38 1 (.slice a1 (n + k) c1) (n + k) (xs ++ valsP (ys.take k)), RowC 26 1 (.slice a' (m + 1) c') (m + 1) (zs ++ [.slice a ys.length c])] H' G) ∧ Sls t 27 [(0, .pointer (some ⟨g, 0, none⟩)), (1, .slice a ys.length c), (4, .int .i64 k)]) _ ⟨0, wa, wc, rfl, Nat.zero_le _, ⟨_, by rw [show xs ++ valsP (ys.take 0) = xs from List.append_nil _]; (exact atks)⟩, asls⟩ ?_
  rintro gm t H' ⟨k, a1, c1, rfl, hk, ⟨G, hp⟩, hs'⟩
  revert t; refine sls_all ?_; iterate 24 intro uu'
  refine sw_takeG hp ?_; clear hp
  by_cases hlt : k < ys.length
  · obtain ⟨a3, c3, hy3⟩ := hy _ (getD_mem hlt)
    have hsn : valsP (ys.take (k + 1)) = valsP (ys.take k) ++ [(ys.getD k default).val] := by
      unfold valsP; rw [take_getD (d := default) hlt, List.map_append]; rfl
    have he : encPo (ys.getD k default) = [.string (bs (ys.getD k default).gram), .slice a3 (ys.getD k default).pl.length c3] := by unfold encPo; rw [hy3]
    have hop := onePosting_any r g (.slice a1 (n + k) c1) (.slice a' (m + 1) c') (n + k) (xs ++ valsP (ys.take k)) (ys.getD k default).gram a3 (ys.getD k default).pl.length c3 (by omega)
    repeat' (first | (rw [he]) | (refine acl Tryz.func73 ?_; refine acr (hop) ?_; rintro v' H' ⟨a4, c4, rfl⟩; all_goals refine apl ?_) | (exfalso; first | contradiction | omega) | refine aw0 ?_ | (refine ap2 ?_ ?_ <;> try intro h) | refine aw1 ?_ | (refine abx ?_; intro bb) | (refine abz ?_; intro bz) | (refine ahv ?_; intro v' hv') | (refine aac ?_; intro ac cc) | refine aw2 ?_ | (refine ap4 ?_ ?_ <;> try intro h) | apply True.intro)
    exact ⟨_, by omega, k + 1, a4, c4, rfl, by omega, ⟨_, by rw [hsn, hy3, ← List.append_assoc]; (exact atks)⟩, asls⟩
  · obtain rfl : k = ys.length := by omega
    rw [List.take_length]
    repeat' (first | (exfalso; first | contradiction | omega) | refine aw0 ?_ | (refine ap2 ?_ ?_ <;> try intro h) | refine aw1 ?_ | (refine abx ?_; intro bb) | (refine abz ?_; intro bz) | (refine ahv ?_; intro v' hv') | (refine aac ?_; intro ac cc) | refine aw2 ?_ | (refine ap4 ?_ ?_ <;> try intro h) | apply True.intro)
    ((with_reducible apply fp_end); exact res_0 rfl)
    exact HR.out _ _ _ [pt g _, RowC 38 1 _ _ _, RowC 26 1 _ _ _] (by (exact atks)) ⟨_, _, _, _, rfl⟩
set_option maxRecDepth 10000 in
set_option maxHeartbeats 4000000 in
theorem apartP_any (r : Hp) (g : Nat) (w u : Value) (P : List Rowpl) (G : List Rowpo) (hn : P.length ≤ 1000000) (hl : ∀ x ∈ P, x.l.length ≤ 100000000) (hm : G.length ≤ 1000000) (hg : ∀ x ∈ G, x.l.length ≤ 100000000) : Tri Tryz.prog r 40 [.pointer (some ⟨g, 0, none⟩)] [pt g (bagP w u), RowC 38 1 w P.length (P.flatMap encRpl), RowC 26 1 u G.length (G.flatMap encRpo), Fam P.length (fpl1 P) (fpl0 P) 0, Fam G.length (fpo1 G) (fpo0 G) 0] fun w H => w = .bool true ∧ H = [] := by
  refine Tri.free2 fun R HR => ?_
  refine fn_of_sw Tryz.func40 rfl _ rfl ?_; refine aen Tryz.ntmps40 ?_
  repeat' (first | refine aw0m ?_ | (refine ap2 ?_ ?_ <;> try intro h) | refine aw1m ?_ | (refine abx ?_; intro bb) | (refine abz ?_; intro bz) | (refine ahv ?_; intro v' hv') | (refine aac ?_; intro ac cc) | refine aw2 ?_ | (refine ap4 ?_ ?_ <;> try intro h) | apply True.intro)
  simp only [List.append_eq, List.cons_append, List.nil_append]
  repeat' (first | ((with_reducible apply kx_lendC (A := RowC 38 1 w P.length (P.flatMap encRpl))); (exact atk); intro r1 g1 hr1 hg1 hA1; (refine acl Tryz.func86 ?_; refine acr (flatPlaces_any r1 w P ⟨fun _ => rfl, hA1.sl hg1⟩ hn hl) ?_; rintro v' H' ⟨rfl, rfl⟩; all_goals refine apl ?_)) | ((with_reducible apply kx_lendC (A := RowC 26 1 u G.length (G.flatMap encRpo))); (exact atk); intro r2 g2 hr2 hg2 hA2; (refine acl Tryz.func87 ?_; refine acr (flatPostings_any r2 u G ⟨fun _ => rfl, hA2.sl hg2⟩ hm hg) ?_; rintro v' H' ⟨rfl, rfl⟩; all_goals refine apl ?_)) | (refine acl Tryz.func74 ?_; refine acr (flatLimbs_nil _) ?_; rintro v' H' ⟨rfl, rfl⟩; all_goals refine apl ?_) | (refine acl Tryz.func75 ?_; refine acr (flatWords_nil _) ?_; rintro v' H' ⟨rfl, rfl⟩; all_goals refine apl ?_) | (refine acl Tryz.func76 ?_; refine acr (flatInts_nil _) ?_; rintro v' H' ⟨rfl, rfl⟩; all_goals refine apl ?_) | (refine acl Tryz.func77 ?_; refine acr (flatLongs_nil _) ?_; rintro v' H' ⟨rfl, rfl⟩; all_goals refine apl ?_) | (refine acl Tryz.func78 ?_; refine acr (flatTexts_nil _) ?_; rintro v' H' ⟨rfl, rfl⟩; all_goals refine apl ?_) | (refine acl Tryz.func79 ?_; refine acr (flatBytes_nil _) ?_; rintro v' H' ⟨rfl, rfl⟩; all_goals refine apl ?_) | (refine acl Tryz.func80 ?_; refine acr (flatTruths_nil _) ?_; rintro v' H' ⟨rfl, rfl⟩; all_goals refine apl ?_) | (refine acl Tryz.func81 ?_; refine acr (flatNodes_nil _) ?_; rintro v' H' ⟨rfl, rfl⟩; all_goals refine apl ?_) | (refine acl Tryz.func82 ?_; refine acr (flatInsts_nil _) ?_; rintro v' H' ⟨rfl, rfl⟩; all_goals refine apl ?_) | (refine acl Tryz.func83 ?_; refine acr (flatQueries_nil _) ?_; rintro v' H' ⟨rfl, rfl⟩; all_goals refine apl ?_) | (refine acl Tryz.func84 ?_; refine acr (flatFiles_nil _) ?_; rintro v' H' ⟨rfl, rfl⟩; all_goals refine apl ?_) | (refine acl Tryz.func85 ?_; refine acr (flatDocs_nil _) ?_; rintro v' H' ⟨rfl, rfl⟩; all_goals refine apl ?_) | (refine acl Tryz.func88 ?_; refine acr (flatShardRefs_nil _) ?_; rintro v' H' ⟨rfl, rfl⟩; all_goals refine apl ?_) | (refine acl Tryz.func89 ?_; refine acr (flatManifests_nil _) ?_; rintro v' H' ⟨rfl, rfl⟩; all_goals refine apl ?_) | (refine acl Tryz.func90 ?_; refine acr (flatAsks_nil _) ?_; rintro v' H' ⟨rfl, rfl⟩; all_goals refine apl ?_) | (refine acl Tryz.func91 ?_; refine acr (flatHits_nil _) ?_; rintro v' H' ⟨rfl, rfl⟩; all_goals refine apl ?_) | (refine acl Tryz.func92 ?_; refine acr (flatAnswers_nil _) ?_; rintro v' H' ⟨rfl, rfl⟩; all_goals refine apl ?_) | (refine acl Tryz.func93 ?_; refine acr (flatParts_nil _) ?_; rintro v' H' ⟨rfl, rfl⟩; all_goals refine apl ?_) | (refine acl Tryz.func94 ?_; refine acr (flatChanges_nil _) ?_; rintro v' H' ⟨rfl, rfl⟩; all_goals refine apl ?_) | refine aw0 ?_ | (refine ap2 ?_ ?_ <;> try intro h) | refine aw1 ?_ | (refine abx ?_; intro bb) | (refine abz ?_; intro bz) | (refine ahv ?_; intro v' hv') | (refine aac ?_; intro ac cc) | refine aw2 ?_ | (refine ap4 ?_ ?_ <;> try intro h) | apply True.intro)
  ((with_reducible apply fp_ret); exact res_1 rfl rfl)
  exact HR.out _ _ _ [] (by (exact atks)) ⟨rfl, rfl⟩
/-- A posting's row of places, written out. -/
def rplOf (y : PostV) : Rowpl := match y.val with
  | .slice a _ c => ⟨a, c, y.pl⟩
  | _ => ⟨none, 0, y.pl⟩
theorem rplOf_enc {y : PostV} (h : ∃ a c, y.val = .slice a y.pl.length c) : encRpl (rplOf y) = [y.val] ∧ (rplOf y).l = y.pl := by
  obtain ⟨a, c, e⟩ := h
  unfold rplOf
  rw [e]
  exact ⟨rfl, rfl⟩
theorem rplOf_vals : ∀ {ys : List PostV}, (∀ y ∈ ys, ∃ a c, y.val = .slice a y.pl.length c) → (ys.map rplOf).flatMap encRpl = valsP ys
  | [], _ => rfl
  | y :: ys, h => by
    have ih := rplOf_vals (ys := ys) fun x hx => h x (List.mem_cons_of_mem _ hx)
    rw [List.map_cons, List.flatMap_cons, ih, (rplOf_enc (h y List.mem_cons_self)).1]
    rfl
theorem famL_all {α : Type} [Inhabited α] (xs : List α) (A B : Nat → Ch) (F : α → Ch) (hF : ∀ j, j < xs.length → B j = F (xs.getD j default)) : famL xs.length A B 0 = xs.map F := by
  apply List.ext_getElem?
  intro j
  by_cases hj : j < xs.length
  · rw [List.getElem?_eq_getElem (by rw [famL_len]; exact hj), famL_at hj, if_neg (by omega), hF j hj, List.getElem?_map, List.getElem?_eq_getElem hj, List.getD_eq_getElem?_getD, List.getElem?_eq_getElem hj]
    rfl
  · rw [List.getElem?_eq_none (by rw [famL_len]; omega), List.getElem?_map, List.getElem?_eq_none (by omega)]
    rfl
theorem rows_pl {T : TypeId} : ∀ {Z : List PZ} {h : Hp}, all (rowsC T Z) h → ∀ y ∈ Z.map pvZ, ∃ a c, y.val = .slice a y.pl.length c
  | [], _, _, _, hz => by cases hz
  | y :: Z, h, e, z, hz => by
    obtain ⟨g, k, _, _, hR, hk⟩ := e
    rcases List.mem_cons.1 hz with rfl | hz
    · rcases hR.2 with ⟨h1, h2, _⟩ | ⟨b, cap, _, h1, _⟩
      · have h2 : y.1.2.length = 0 := h2
        exact ⟨none, 0, by show y.2 = .slice none y.1.2.length 0; rw [h2]; exact h1⟩
      · exact ⟨_, cap, h1⟩
    · exact rows_pl hk z hz
theorem rowsC_rpl (Z : List PZ) (h : ∀ y ∈ Z.map pvZ, ∃ a c, y.val = .slice a y.pl.length c) : rowsC 56 Z = ((Z.map pvZ).map rplOf).map fun x => RowC 56 2 (.slice x.a x.l.length x.c) x.l.length (halfpl 0 0 x.l) := by
  unfold rowsC
  rw [List.map_map, List.map_map]
  refine List.map_congr_left fun z hz => ?_
  obtain ⟨a, c, e⟩ := h (pvZ z) (List.mem_map_of_mem hz)
  have e2 : rplOf (pvZ z) = ⟨a, c, z.1.2⟩ := by unfold rplOf; rw [e]; rfl
  show RowC _ 2 z.2 z.1.2.length (z.1.2.flatMap encPl) = _
  simp only [Function.comp_apply, e2]
  rw [halfpl_start, show z.2 = .slice a z.1.2.length c from e]
theorem Sx.sw_joinC {P : Program} {l : Option Nat} {r : Hp} {Q : Exit → St} {t : List Value} {H H1 : List Ch} {c : Code} {As Ds : List Ch} (ht : Takes As H H1) (hj : ∀ h, all As h → all Ds h) (h : SW P l r c Q t (Ds ++ H1)) : SW P l r c Q t H := fun w g ds ok a => by
  obtain ⟨x, y, dd, e, hx, hy⟩ := all_app.1 (all_perm ht a)
  exact h w g ds ok (all_app.2 ⟨x, y, dd, e, hj x hx, hy⟩)
abbrev PZD (v : Value) (Z : List PZ) : Ch := PZC 53 56 v Z
theorem pzc_els {r g : Hp} {a : Option Addr} {c : Nat} {Z : List PZ} (h : PZD (.slice a Z.length c) Z g) (hs : sub g r) : Els r 2 encPo (.slice a (Z.map pvZ).length c) (Z.map pvZ) := by
  have := (pzc_posts h hs rfl).2.1
  rw [List.length_map]
  exact this
theorem pzc_pl {v : Value} {Z : List PZ} {g : Hp} (h : PZD v Z g) : ∀ y ∈ Z.map pvZ, ∃ a c, y.val = .slice a y.pl.length c := by
  obtain ⟨g1, g2, dd, rfl, h1, h2⟩ := h
  exact rows_pl h2
theorem pzc_two {a b : Option Addr} {c d : Nat} {Z Y : List PZ} (h : Hp) (e : all [PZD (.slice a Z.length c) Z, PZD (.slice b Y.length d) Y] h) :
    all [Fam (((Z ++ Y).map pvZ).map rplOf).length (fpl1 (((Z ++ Y).map pvZ).map rplOf)) (fpl0 (((Z ++ Y).map pvZ).map rplOf)) 0, Fam 2 (fpo1 [⟨a, c, Z.map pvZ⟩, ⟨b, d, Y.map pvZ⟩]) (fpo0 [⟨a, c, Z.map pvZ⟩, ⟨b, d, Y.map pvZ⟩]) 0] h := by
  have hz : ∀ y ∈ (Z ++ Y).map pvZ, ∃ a c, y.val = .slice a y.pl.length c := by
    obtain ⟨g1, g2, _, _, h1, g3, g4, _, _, h2, _⟩ := e
    intro y hy
    rw [List.map_append, List.mem_append] at hy
    exact hy.elim (pzc_pl h1 y) (pzc_pl h2 y)
  have e1 := (all_fold (L1 := [PZD (.slice a Z.length c) Z]) (L2 := RowC 53 2 (.slice b Y.length d) Y.length (Y.flatMap encZ) :: rowsC 56 Y)).1 e
  have e2 := all_perm (List.perm_append_comm) e1
  have e3 := (all_fold (L1 := RowC 53 2 (.slice b Y.length d) Y.length (Y.flatMap encZ) :: rowsC 56 Y) (L2 := RowC 53 2 (.slice a Z.length c) Z.length (Z.flatMap encZ) :: rowsC 56 Z)).1 e2
  have hp : ∀ (x y : Ch) (A B : List Ch), (x :: A ++ y :: B).Perm ([y, x] ++ (B ++ A)) := fun x y A B => by
    refine (List.perm_middle (a := y) (l₁ := x :: A) (l₂ := B)).trans ?_
    refine List.Perm.cons _ (List.Perm.cons _ ?_)
    exact List.perm_append_comm
  have e4 := all_perm (hp _ _ _ _) e3
  rw [show rowsC 56 Z ++ rowsC 56 Y = rowsC 56 (Z ++ Y) by unfold rowsC; rw [List.map_append], rowsC_rpl (Z ++ Y) hz] at e4
  have hF1 := famL_all (((Z ++ Y).map pvZ).map rplOf) (fpl1 (((Z ++ Y).map pvZ).map rplOf)) (fpl0 (((Z ++ Y).map pvZ).map rplOf)) (fun x => RowC 56 2 (.slice x.a x.l.length x.c) x.l.length (halfpl 0 0 x.l)) (fun j hj => by unfold fpl0; rw [halfpl_start, halfpl_start])
  have hF2 := famL_all ([⟨a, c, Z.map pvZ⟩, ⟨b, d, Y.map pvZ⟩] : List Rowpo) (fpo1 [⟨a, c, Z.map pvZ⟩, ⟨b, d, Y.map pvZ⟩]) (fpo0 [⟨a, c, Z.map pvZ⟩, ⟨b, d, Y.map pvZ⟩]) (fun x => RowC 53 2 (.slice x.a x.l.length x.c) x.l.length (x.l.flatMap encPo)) (fun j hj => by unfold fpo0; rw [halfpo_start])
  have hzz : ∀ W : List PZ, (W.map pvZ).flatMap encPo = W.flatMap encZ := fun W => by rw [List.flatMap_map]; rfl
  rw [List.map_cons, List.map_cons, List.map_nil] at hF2
  dsimp only at hF2
  rw [hzz, hzz, List.length_map, List.length_map] at hF2
  have e5 := (all_fold (L1 := [_, _]) (L2 := _)).2 e4
  rw [← hF1] at e5
  have e6 := all_perm (List.perm_append_comm (l₁ := [_, _]) (l₂ := [_])) e5
  have e7 := (all_fold (L1 := [_]) (L2 := [_, _])).2 e6
  unfold Fam
  rw [show famL 2 (fpo1 [⟨a, c, Z.map pvZ⟩, ⟨b, d, Y.map pvZ⟩]) (fpo0 [⟨a, c, Z.map pvZ⟩, ⟨b, d, Y.map pvZ⟩]) 0 = _ from hF2]
  exact e7
set_option maxRecDepth 10000 in
set_option maxHeartbeats 4000000 in
theorem apartPostings_any (r : Hp) (v : Value) (a b : Option Addr) (c d : Nat) (Z Y : List PZ) (hv : Sl r 1 v 2 [.slice a Z.length c, .slice b Y.length d]) (hn : Z.length ≤ 100000) (hm : Y.length ≤ 100000) (hl : ∀ z ∈ Z ++ Y, z.1.2.length ≤ 100000000) : Tri Tryz.prog r 14 [v] [PZD (.slice a Z.length c) Z, PZD (.slice b Y.length d) Y] fun w H => w = .bool true ∧ H = [] := by
  refine Tri.free2 fun R HR => ?_
  have hG : Els r 1 encRpo v [⟨a, c, Z.map pvZ⟩, ⟨b, d, Y.map pvZ⟩] := ⟨fun _ => rfl, by
    show Sl r 1 v 2 [.slice a (Z.map pvZ).length c, .slice b (Y.map pvZ).length d]
    rw [List.length_map, List.length_map]; exact hv⟩
  obtain ⟨Gs, hGs⟩ : ∃ Gs : List Rowpo, Gs = [⟨a, c, Z.map pvZ⟩, ⟨b, d, Y.map pvZ⟩] := ⟨_, rfl⟩
  rw [← hGs] at hG
  have hG2 : Gs.length = 2 := by rw [hGs]; rfl
  have hG0 : Gs.getD 0 default = ⟨a, c, Z.map pvZ⟩ := by rw [hGs]; rfl
  have hG1 : Gs.getD 1 default = ⟨b, d, Y.map pvZ⟩ := by rw [hGs]; rfl
  clear hGs
  have hZl : (Z.map pvZ).length = Z.length := List.length_map ..
  have hYl : (Y.map pvZ).length = Y.length := List.length_map ..
  refine fn_of_sw Tryz.func14 rfl _ rfl ?_; refine aen Tryz.ntmps14 ?_
  refine sw_fact (A := PZD (.slice a Z.length c) Z) (by (exact atk)) (fun g h => pzc_pl h) ?_
  intro hz
  refine sw_fact (A := PZD (.slice b Y.length d) Y) (by (exact atk)) (fun g h => pzc_pl h) ?_
  intro hy
  refine sw_put (A := RowC 38 1 (.slice none 0 0) 0 []) (RowC.nil _ _) ?_
  refine sw_put (A := RowC 26 1 (.slice none 0 0) 0 []) (RowC.nil _ _) ?_
  repeat' (first | refine aw0m ?_ | (refine ap2 ?_ ?_ <;> try intro h) | refine aw1m ?_ | (refine abx ?_; intro bb) | (refine abz ?_; intro bz) | (refine ahv ?_; intro v' hv') | (refine aac ?_; intro ac cc) | refine aw2 ?_ | (refine ap4 ?_ ?_ <;> try intro h) | apply True.intro)
  refine sw_loop (fun gm t H' => ∃ (k : Nat) (w u : Value) (n : Nat) (xs zs : List Value), gm = 3 - k ∧ (k ≤ 2) ∧ (k = 0 → n = 0 ∧ xs = [] ∧ zs = []) ∧ (k = 1 → n = Z.length ∧ xs = valsP (Z.map pvZ) ∧ zs = [.slice a (Z.map pvZ).length c]) ∧ (k = 2 → n = Z.length + Y.length ∧ xs = valsP ((Z ++ Y).map pvZ) ∧ zs = [.slice a (Z.map pvZ).length c, .slice b (Y.map pvZ).length d]) ∧ (∃ G, Takes [pt bb (bagP w u), RowC 38 1 w n xs, RowC 26 1 u k zs, PZD (.slice a Z.length c) Z, PZD (.slice b Y.length d) Y] H' G) ∧ Sls t 21 [(0, v), (3, .pointer (some ⟨bb, 0, none⟩)), (4, .int .i64 k)]) _ ⟨0, _, _, 0, [], [], rfl, Nat.zero_le _, (fun _ => ⟨rfl, rfl, rfl⟩), (fun h => by cases h), (fun h => by cases h), ⟨[], atks⟩, asls⟩ ?_
  rintro gm t H' ⟨k, w, u, n, xs, zs, rfl, hk, h0, h1, h2, ⟨G, hp⟩, hs'⟩
  revert t; refine sls_all ?_; iterate 18 intro uu'
  refine sw_takeG hp ?_; clear hp
  obtain rfl | rfl | rfl : k = 0 ∨ k = 1 ∨ k = 2 := by omega
  · obtain ⟨rfl, rfl, rfl⟩ := h0 rfl
    have hpp := fun r' h => putPostings_any r' bb w u 0 0 [] [] a c (Z.map pvZ) h hz (by omega) (by omega)
    repeat' (first | (rw [hG0]) | ((with_reducible apply kx_lendC (A := PZD (.slice a Z.length c) Z)); (exact atk); intro r1 g1 hr1 hg1 hA1; (refine acl Tryz.func39 ?_; refine acr (hpp r1 (pzc_els hA1 hg1)) ?_; rintro v' H' ⟨a1, c1, a2, c2, rfl⟩; all_goals refine apl ?_)) | (exfalso; first | contradiction | omega) | refine aw0 ?_ | (refine ap2 ?_ ?_ <;> try intro h) | refine aw1 ?_ | (refine abx ?_; intro bb) | (refine abz ?_; intro bz) | (refine ahv ?_; intro v' hv') | (refine aac ?_; intro ac cc) | refine aw2 ?_ | (refine ap4 ?_ ?_ <;> try intro h) | apply True.intro)
    exact ⟨_, by omega, 1, .slice a1 (0 + (Z.map pvZ).length) c1, .slice a2 (0 + 1) c2, 0 + (Z.map pvZ).length, _, _, rfl, by omega, (fun h => by cases h), (fun _ => ⟨by omega, rfl, rfl⟩), (fun h => by cases h), ⟨_, atks⟩, asls⟩
  · obtain ⟨rfl, rfl, rfl⟩ := h1 rfl
    have hpp := fun r' h => putPostings_any r' bb w u Z.length 1 (valsP (Z.map pvZ)) [.slice a (Z.map pvZ).length c] b d (Y.map pvZ) h hy (by omega) (by omega)
    repeat' (first | (rw [hG1]) | ((with_reducible apply kx_lendC (A := PZD (.slice b Y.length d) Y)); (exact atk); intro r1 g1 hr1 hg1 hA1; (refine acl Tryz.func39 ?_; refine acr (hpp r1 (pzc_els hA1 hg1)) ?_; rintro v' H' ⟨a1, c1, a2, c2, rfl⟩; all_goals refine apl ?_)) | (exfalso; first | contradiction | omega) | refine aw0 ?_ | (refine ap2 ?_ ?_ <;> try intro h) | refine aw1 ?_ | (refine abx ?_; intro bb) | (refine abz ?_; intro bz) | (refine ahv ?_; intro v' hv') | (refine aac ?_; intro ac cc) | refine aw2 ?_ | (refine ap4 ?_ ?_ <;> try intro h) | apply True.intro)
    exact ⟨_, by omega, 2, .slice a1 (Z.length + (Y.map pvZ).length) c1, .slice a2 (1 + 1) c2, Z.length + (Y.map pvZ).length, _, _, rfl, by omega, (fun h => by cases h), (fun h => by cases h), (fun _ => ⟨by omega, by unfold valsP; rw [List.map_append, List.map_append], rfl⟩), ⟨_, atks⟩, asls⟩
  · obtain ⟨rfl, rfl, rfl⟩ := h2 rfl
    have hap := apartP_any r bb w u (((Z ++ Y).map pvZ).map rplOf) [⟨a, c, Z.map pvZ⟩, ⟨b, d, Y.map pvZ⟩] (by simp; omega) (fun x hx => by
      obtain ⟨y, hy1, rfl⟩ := List.mem_map.1 hx
      obtain ⟨z, hz1, rfl⟩ := List.mem_map.1 hy1
      have h3 : ∃ a c, (pvZ z).val = .slice a (pvZ z).pl.length c := by
        rw [List.mem_append] at hz1
        exact hz1.elim (fun h => hz _ (List.mem_map_of_mem h)) (fun h => hy _ (List.mem_map_of_mem h))
      rw [(rplOf_enc h3).2]
      exact hl z hz1) (by simp) (fun x hx => by
      rcases List.mem_cons.1 hx with rfl | hx
      · show (Z.map pvZ).length ≤ _; omega
      · obtain rfl := List.mem_singleton.1 hx; show (Y.map pvZ).length ≤ _; omega)
    rw [rplOf_vals (fun y h => by
      rw [List.map_append, List.mem_append] at h
      exact h.elim (hz y) (hy y))] at hap
    rw [show (((Z ++ Y).map pvZ).map rplOf).length = Z.length + Y.length by simp] at hap
    refine sw_joinC (As := [PZD (.slice a Z.length c) Z, PZD (.slice b Y.length d) Y]) (by (exact atks)) pzc_two ?_
    rw [show (((Z ++ Y).map pvZ).map rplOf).length = Z.length + Y.length by simp]
    simp only [List.cons_append, List.nil_append]
    repeat' (first | (refine acl Tryz.func40 ?_; refine acr (hap) ?_; rintro v' H' ⟨rfl, rfl⟩; all_goals refine apl ?_) | (exfalso; first | contradiction | omega) | refine aw0 ?_ | (refine ap2 ?_ ?_ <;> try intro h) | refine aw1 ?_ | (refine abx ?_; intro bb) | (refine abz ?_; intro bz) | (refine ahv ?_; intro v' hv') | (refine aac ?_; intro ac cc) | refine aw2 ?_ | (refine ap4 ?_ ?_ <;> try intro h) | apply True.intro)
    ((with_reducible apply fp_ret); exact res_1 rfl rfl)
    exact HR.out _ _ _ [] Takes.all ⟨rfl, rfl⟩
end Go.Proofs.YtkbajhiahpkgiaaGreat
