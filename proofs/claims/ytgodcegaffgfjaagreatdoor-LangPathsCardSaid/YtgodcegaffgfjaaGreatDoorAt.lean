
/- mudlarkkit.ApartTexts: its contract (printed by tools/gen_at.py), as LangPaths asks it. -/
import Derived.Test.YtgodcegaffgfjaaGreatDoorAb
import Derived.Test.YtgodcegaffgfjaaGreatDoorFt
import Derived.Test.YtgodcegaffgfjaaGreatDoorLq
namespace Go.Proofs.YtgodcegaffgfjaaGreatDoor
open Go.RowKit Sx
namespace Ft
theorem bytes_nil (r : Hp) : Tri Tryz.prog r 58 [.slice none 0 0] [] fun w H => w = .bool true ∧ H = [] :=
  tri_put (A := Fam 0 (Go.Proofs.YtgodcegaffgfjaaGreatDoor.fb1 []) (Go.Proofs.YtgodcegaffgfjaaGreatDoor.fb0 []) 0) rfl (Go.Proofs.YtgodcegaffgfjaaGreatDoor.flatBytes_any r _ [] ⟨fun _ => rfl, Sl.nil _ _⟩ (Nat.zero_le _) (fun x hx => by cases hx))
/-- A bag that holds but rows of texts. -/
abbrev bagO (w : Value) : Obj := .cells [.slice none 0 0, .slice none 0 0, .slice none 0 0, .slice none 0 0, w, .slice none 0 0, .slice none 0 0, .slice none 0 0, .slice none 0 0, .slice none 0 0, .slice none 0 0, .slice none 0 0, .slice none 0 0, .slice none 0 0, .slice none 0 0, .slice none 0 0, .slice none 0 0, .slice none 0 0, .slice none 0 0, .slice none 0 0, .slice none 0 0].toArray 84 (0, 0)
set_option maxRecDepth 10000 in
set_option maxHeartbeats 1000000 in
theorem putTexts_any (r : Hp) (g : Nat) (w : Value) (n : Nat) (xs : List Value) (a : Option Addr) (m c : Nat) (hn : n ≤ 1000000) : Tri Tryz.prog r 32 [.pointer (some ⟨g, 0, none⟩), .slice a m c] [pt g (bagO w), RowC 24 1 w n xs] fun _ H => ∃ a' c', H = [pt g (bagO (.slice a' (n + 1) c')), RowC 24 1 (.slice a' (n + 1) c') (n + 1) (xs ++ [.slice a m c])] := by
  refine Tri.free2 fun R HR => ?_
  refine fn_of_sw Tryz.func32 rfl _ rfl ?_; refine aen Tryz.ntmps32 ?_
  repeat' (first | (first | ((with_reducible apply kx_bs1); exact ty_el; exact ty_inf; rfl; rfl; rfl; intro bz; (refine apk ?_)) | ((with_reducible apply kx_bsN); exact ty_el; exact ty_inf; rfl; rfl; rfl; intro bz; (refine apk ?_))) | (first | ((with_reducible apply kx_append1); exact ty_el; exact ty_inf; rfl; rfl; rfl; (exact atk); (exact atk); rfl; (omega); intro a' c'; (refine apk ?_)) | ((with_reducible apply kx_appendN); exact ty_el; exact ty_inf; rfl; rfl; rfl; rfl; (exact atk); (exact atk); rfl; rfl; (omega); intro a' c'; (refine apk ?_))) | refine aw0 ?_ | (refine ap2 ?_ ?_ <;> try intro h) | refine aw1 ?_ | (refine abx ?_; intro bb) | (refine abz ?_; intro bz) | (refine ahv ?_; intro v' hv') | (refine aac ?_; intro ac cc) | refine aw2 ?_ | (refine ap4 ?_ ?_ <;> try intro h) | apply True.intro)
  ((with_reducible apply fp_end); exact res_0 rfl)
  exact HR.out _ _ _ [pt g _, RowC 24 1 _ _ _] (by (exact atks)) ⟨_, _, rfl⟩
set_option maxRecDepth 10000 in
set_option maxHeartbeats 4000000 in
theorem apart_any (r : Hp) (g : Nat) (w : Value) (rows : List RowV) (hn : rows.length ≤ 1000000) (hl : ∀ x ∈ rows, x.l.length ≤ 100000000) : Tri Tryz.prog r 33 [.pointer (some ⟨g, 0, none⟩)] [pt g (bagO w), RowC 24 1 w rows.length (rows.flatMap encS), Fam rows.length (fb1 rows) (fb0 rows) 0] fun w H => w = .bool true ∧ H = [] := by
  refine Tri.free2 fun R HR => ?_
  refine fn_of_sw Tryz.func33 rfl _ rfl ?_; refine aen Tryz.ntmps33 ?_
  repeat' (first | refine aw0m ?_ | (refine ap2 ?_ ?_ <;> try intro h) | refine aw1m ?_ | (refine abx ?_; intro bb) | (refine abz ?_; intro bz) | (refine ahv ?_; intro v' hv') | (refine aac ?_; intro ac cc) | refine aw2 ?_ | (refine ap4 ?_ ?_ <;> try intro h) | apply True.intro)
  simp only [List.append_eq, List.cons_append, List.nil_append]
  repeat' (first | ((with_reducible apply kx_lendC (A := RowC 24 1 w rows.length (rows.flatMap encS))); (exact atk); intro r1 g1 hr1 hg1 hA1; (refine acl Tryz.func57 ?_; refine acr (flatTexts_any r1 w rows ⟨fun _ => rfl, hA1.sl hg1⟩ hn hl) ?_; rintro v' H' ⟨rfl, rfl⟩; all_goals refine apl ?_)) | (refine acl Tryz.func53 ?_; refine acr (flatLimbs_nil _) ?_; rintro v' H' ⟨rfl, rfl⟩; all_goals refine apl ?_) | (refine acl Tryz.func54 ?_; refine acr (flatWords_nil _) ?_; rintro v' H' ⟨rfl, rfl⟩; all_goals refine apl ?_) | (refine acl Tryz.func55 ?_; refine acr (flatInts_nil _) ?_; rintro v' H' ⟨rfl, rfl⟩; all_goals refine apl ?_) | (refine acl Tryz.func56 ?_; refine acr (flatLongs_nil _) ?_; rintro v' H' ⟨rfl, rfl⟩; all_goals refine apl ?_) | (refine acl Tryz.func58 ?_; refine acr (bytes_nil _) ?_; rintro v' H' ⟨rfl, rfl⟩; all_goals refine apl ?_) | (refine acl Tryz.func59 ?_; refine acr (flatTruths_nil _) ?_; rintro v' H' ⟨rfl, rfl⟩; all_goals refine apl ?_) | (refine acl Tryz.func60 ?_; refine acr (flatNodes_nil _) ?_; rintro v' H' ⟨rfl, rfl⟩; all_goals refine apl ?_) | (refine acl Tryz.func61 ?_; refine acr (flatInsts_nil _) ?_; rintro v' H' ⟨rfl, rfl⟩; all_goals refine apl ?_) | (refine acl Tryz.func62 ?_; refine acr (flatQueries_nil _) ?_; rintro v' H' ⟨rfl, rfl⟩; all_goals refine apl ?_) | (refine acl Tryz.func63 ?_; refine acr (flatFiles_nil _) ?_; rintro v' H' ⟨rfl, rfl⟩; all_goals refine apl ?_) | (refine acl Tryz.func64 ?_; refine acr (flatDocs_nil _) ?_; rintro v' H' ⟨rfl, rfl⟩; all_goals refine apl ?_) | (refine acl Tryz.func65 ?_; refine acr (flatPlaces_nil _) ?_; rintro v' H' ⟨rfl, rfl⟩; all_goals refine apl ?_) | (refine acl Tryz.func66 ?_; refine acr (flatPostings_nil _) ?_; rintro v' H' ⟨rfl, rfl⟩; all_goals refine apl ?_) | (refine acl Tryz.func67 ?_; refine acr (flatShardRefs_nil _) ?_; rintro v' H' ⟨rfl, rfl⟩; all_goals refine apl ?_) | (refine acl Tryz.func68 ?_; refine acr (flatManifests_nil _) ?_; rintro v' H' ⟨rfl, rfl⟩; all_goals refine apl ?_) | (refine acl Tryz.func69 ?_; refine acr (flatAsks_nil _) ?_; rintro v' H' ⟨rfl, rfl⟩; all_goals refine apl ?_) | (refine acl Tryz.func70 ?_; refine acr (flatHits_nil _) ?_; rintro v' H' ⟨rfl, rfl⟩; all_goals refine apl ?_) | (refine acl Tryz.func71 ?_; refine acr (flatAnswers_nil _) ?_; rintro v' H' ⟨rfl, rfl⟩; all_goals refine apl ?_) | (refine acl Tryz.func72 ?_; refine acr (flatParts_nil _) ?_; rintro v' H' ⟨rfl, rfl⟩; all_goals refine apl ?_) | (refine acl Tryz.func73 ?_; refine acr (flatChanges_nil _) ?_; rintro v' H' ⟨rfl, rfl⟩; all_goals refine apl ?_) | refine aw0 ?_ | (refine ap2 ?_ ?_ <;> try intro h) | refine aw1 ?_ | (refine abx ?_; intro bb) | (refine abz ?_; intro bz) | (refine ahv ?_; intro v' hv') | (refine aac ?_; intro ac cc) | refine aw2 ?_ | (refine ap4 ?_ ?_ <;> try intro h) | apply True.intro)
  ((with_reducible apply fp_ret); exact res_1 rfl rfl)
  exact HR.out _ _ _ [] (by (exact atks)) ⟨rfl, rfl⟩
set_option maxRecDepth 10000 in
set_option maxHeartbeats 2000000 in
theorem apartTexts_any (r : Hp) (v : Value) (rows : List RowV) (hv : Els r 1 encS v rows) (hn : rows.length ≤ 1000000) (hl : ∀ x ∈ rows, x.l.length ≤ 100000000) : Tri Tryz.prog r 11 [v] (famL rows.length (fb1 rows) (fb0 rows) 0) fun w H => w = .bool true ∧ H = [] := by
  refine tri_pack ?_
  rw [show (fun h => all (famL rows.length (fb1 rows) (fb0 rows) 0) h) = Fam rows.length (fb1 rows) (fb0 rows) 0 from rfl]
  refine Tri.free2 fun R HR => ?_
  refine fn_of_sw Tryz.func11 rfl _ rfl ?_; refine aen Tryz.ntmps11 ?_
  refine sw_put (A := RowC 24 1 (.slice none 0 0) 0 []) (RowC.nil _ _) ?_
  repeat' (first | refine aw0m ?_ | (refine ap2 ?_ ?_ <;> try intro h) | refine aw1m ?_ | (refine abx ?_; intro bb) | (refine abz ?_; intro bz) | (refine ahv ?_; intro v' hv') | (refine aac ?_; intro ac cc) | refine aw2 ?_ | (refine ap4 ?_ ?_ <;> try intro h) | apply True.intro)
  refine sw_loop (fun gm t H' => ∃ (k : Nat) (w : Value), gm = rows.length + 1 - k ∧ (k ≤ rows.length) ∧ (∃ G, Takes [pt bb (bagO w), RowC 24 1 w k ((rows.take k).flatMap encS), Fam rows.length (fb1 rows) (fb0 rows) 0] H' G) ∧ Sls t 21 [(0, v), (3, .pointer (some ⟨bb, 0, none⟩)), (4, .int .i64 k)]) _ ⟨0, _, rfl, Nat.zero_le _, ⟨[], atks⟩, asls⟩ ?_
  rintro gm t H' ⟨k, w, rfl, hk, ⟨G, hp⟩, hs'⟩
  revert t; refine sls_all ?_; iterate 18 intro uu'
  refine sw_takeG hp ?_; clear hp
  by_cases hlt : k < rows.length
  · repeat' (first | (refine acl Tryz.func32 ?_; refine acr (putTexts_any r bb w k ((rows.take k).flatMap encS) (rows.getD k default).a (rows.getD k default).l.length (rows.getD k default).c (by omega)) ?_; rintro v' H' ⟨a1, c1, rfl⟩; all_goals refine apl ?_) | refine aw0 ?_ | (refine ap2 ?_ ?_ <;> try intro h) | refine aw1 ?_ | (refine abx ?_; intro bb) | (refine abz ?_; intro bz) | (refine ahv ?_; intro v' hv') | (refine aac ?_; intro ac cc) | refine aw2 ?_ | (refine ap4 ?_ ?_ <;> try intro h) | apply True.intro)
    exact ⟨_, by omega, k + 1, .slice a1 (k + 1) c1, rfl, by omega, ⟨_, by rw [take_getD (d := default) hlt, List.flatMap_append]; (exact atks)⟩, asls⟩
  · obtain rfl : k = rows.length := by omega
    rw [List.take_length]
    repeat' (first | (refine acl Tryz.func33 ?_; refine acr (apart_any r bb w rows hn hl) ?_; rintro v' H' ⟨rfl, rfl⟩; all_goals refine apl ?_) | refine aw0 ?_ | (refine ap2 ?_ ?_ <;> try intro h) | refine aw1 ?_ | (refine abx ?_; intro bb) | (refine abz ?_; intro bz) | (refine ahv ?_; intro v' hv') | (refine aac ?_; intro ac cc) | refine aw2 ?_ | (refine ap4 ?_ ?_ <;> try intro h) | apply True.intro)
    ((with_reducible apply fp_ret); exact res_1 rfl rfl)
    exact HR.out _ _ _ [] (by (exact atks)) ⟨rfl, rfl⟩
theorem famL_all {α : Type} [Inhabited α] (xs : List α) (A B : Nat → Ch) (F : α → Ch) (hF : ∀ j, j < xs.length → B j = F (xs.getD j default)) : famL xs.length A B 0 = xs.map F := by
  apply List.ext_getElem?
  intro j
  by_cases hj : j < xs.length
  · rw [List.getElem?_eq_getElem (by rw [famL_len]; exact hj), famL_at hj, if_neg (by omega), hF j hj, List.getElem?_map, List.getElem?_eq_getElem hj, List.getD_eq_getElem?_getD, List.getElem?_eq_getElem hj]
    rfl
  · rw [List.getElem?_eq_none (by rw [famL_len]; omega), List.getElem?_map, List.getElem?_eq_none (by omega)]
    rfl
theorem apartTx_any : ApartTx := by
  unfold ApartTx
  intro r b a1 c1 a2 c2 hb
  have h := apartTexts_any r (.slice (some ⟨b, 0, none⟩) 2 2) [⟨a1, c1, allL⟩, ⟨a2, c2, allL⟩] ⟨fun _ => rfl, Sl.lit (n := 2) hb rfl (by simp [maxLen])⟩ (by simp) (fun x hx => by
    rcases List.mem_cons.1 hx with rfl | hx
    · exact (by decide : allL.length ≤ 100000000)
    · obtain rfl := List.mem_singleton.1 hx; exact (by decide : allL.length ≤ 100000000))
  have hF := famL_all ([⟨a1, c1, allL⟩, ⟨a2, c2, allL⟩] : List RowV) (fb1 [⟨a1, c1, allL⟩, ⟨a2, c2, allL⟩]) (fb0 [⟨a1, c1, allL⟩, ⟨a2, c2, allL⟩]) (fun x => RowC 9 1 (.slice x.a x.l.length x.c) x.l.length (x.l.flatMap encTx)) (fun j hj => rfl)
  rw [hF] at h
  exact h
end Ft
end Go.Proofs.YtgodcegaffgfjaaGreatDoor
