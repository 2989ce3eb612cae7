
/- (*query.gathering).take: its contract; texts sorted and compacted. -/
import Derived.Test.YtdccjfabdfgomaaGreatDoorVj
namespace Go.Proofs.YtdccjfabdfgomaaGreatDoor
open Go.RowKit Sx

abbrev wbox (b : Nat) (gv sv : Value) : Ch := pt b (.cells [gv, sv].toArray 74 (0, 0))
abbrev gatC (b : Nat) (a1 : Option Addr) (c1 : Nat) (a2 : Option Addr) (c2 : Nat) (G : List Tx) (S : List QuV) : List Ch := [wbox b (.slice a1 G.length c1) (.slice a2 S.length c2), RowC 9 1 (.slice a1 G.length c1) G.length (G.flatMap encTx), RowC 27 3 (.slice a2 S.length c2) S.length (S.flatMap encQ)]
set_option maxRecDepth 10000 in
set_option maxHeartbeats 4000000 in
theorem take_any (r : Hp) (b : Nat) (a1 : Option Addr) (c1 : Nat) (a2 : Option Addr) (c2 : Nat) (G : List Tx) (S : List QuV) (q : QuV) (hq : QuR r q) (hG : G.length + q.grams.length ≤ 10000000) (hS : S.length + q.subs.length ≤ 10000000) : Tri Tryz.prog r 34 [.pointer (some ⟨b, 0, none⟩), .agg (encQ q).toArray] (gatC b a1 c1 a2 c2 G S) fun _ H => ∃ a1' c1' a2' c2', H = gatC b a1' c1' a2' c2' (G ++ q.grams) (S ++ q.subs) := by
  obtain ⟨h1, h2, h3⟩ := quR_iff.1 hq
  have h4 := encQ_ones h3
  have h5 := encTx_one q.grams
  refine Tri.free2 fun R HR => ?_
  show Tri _ _ _ [_, .agg [.int .i64 q.kind, q.gv, q.sv].toArray] _ _
  refine fn_of_sw Tryz.func34 rfl _ rfl ?_; refine aen Tryz.ntmps34 ?_
  repeat' (first | ((with_reducible apply kx_box); rfl; (exact qcl); intro b3; (refine apk ?_)) | ((with_reducible apply sw_draw (id := 1) 8 [(0, true), (1, true), (2, true), (3, true), (4, true), (5, true), (6, true), (7, false)] [(8, false), (9, false), (10, false)] [(b, .cells [.slice a1 G.length c1, .slice a2 S.length c2].toArray 74 (0, 0)), (b3, .cells [.int .i64 q.kind, q.gv, q.sv].toArray 27 (0, 0))]); kernel_rfl; (exact atks); kernel_rfl; intro r' hl') | ((with_reducible apply sw_draw (id := 2) 8 [(0, true), (1, true), (2, true), (3, true), (4, true), (5, true), (6, true), (7, false)] [(8, false), (9, false), (10, false)] [(b, .cells [.slice a1' (G.length + q.grams.length) c1', .slice a2 S.length c2].toArray 74 (0, 0)), (b3, .cells [.int .i64 q.kind, q.gv, q.sv].toArray 27 (0, 0))]); kernel_rfl; (exact atks); kernel_rfl; intro r' hl') | ((with_reducible refine swo_isApp ?_); (with_reducible apply kx_appS (news := q.grams.flatMap encTx)); exact ty_el; exact ty_inf; rfl; rfl; rfl; rfl; exact (h1.mono hl'.1).2; (exact atk); exact h5; (unfold maxLen; omega); (omega); intro a1' c1'; refine apm ?_) | ((with_reducible refine swo_isApp ?_); (with_reducible apply kx_appS (news := q.subs.flatMap encQ)); exact ty_el; exact ty_inf; rfl; rfl; rfl; rfl; exact (h2.mono hl'.1).2; (exact atk); exact h4; (unfold maxLen; omega); (omega); intro a2' c2'; refine apm ?_) | (exfalso; first | contradiction | omega) | refine aw0 ?_ | (refine ap2 ?_ ?_ <;> try intro h) | refine aw1 ?_ | (refine abx ?_; intro bb) | (refine abz ?_; intro bz) | (refine ahv ?_; intro v' hv') | (refine aac ?_; intro ac cc) | refine aw2 ?_ | (refine ap4 ?_ ?_ <;> try intro h) | apply True.intro)
  ((with_reducible apply fp_end); exact res_0 rfl)
  exact HR.out _ _ _ [wbox b _ _, RowC 9 1 _ _ _, RowC 27 3 _ _ _] (by (exact atks)) ⟨a1', c1', a2', c2', by unfold gatC; rw [List.length_append, List.length_append, List.flatMap_append, List.flatMap_append]⟩
theorem compact_keep (gs : List Tx) : Lib.compact gs = keepTo id gs gs.length := by
  have e : ∀ j, j < gs.length → gs.toArray[j]! = gs.getD j default := fun j hj => by simp [hj]
  unfold Lib.compact Lib.compactUpTo keepTo
  rw [List.filter_congr (q := fun i => decide (i = 0) || !decide (id (gs.getD i default) = id (gs.getD (i - 1) default))) fun k hk => ?_]
  · refine List.map_congr_left fun k hk => ?_
    exact e k (List.mem_range.1 (List.mem_filter.1 hk).1)
  · have hk := List.mem_range.1 hk
    unfold Lib.keeps
    cases k with
    | zero => simp
    | succ i =>
      rw [e _ hk, Nat.add_sub_cancel, e _ (by omega)]
      simp
theorem sortT_up (G : List Tx) : UpIn id 0 (sortT G).length (sortT G) := fun p q _ h2 _ h4 => by
  have h := List.pairwise_mergeSort (le := fun x y : Tx => decide (x ≤ y)) (fun a b c h1 h2 => by
    rw [decide_eq_true_eq] at *; exact List.le_trans h1 h2) (fun a b => by
    rw [Bool.or_eq_true, decide_eq_true_eq, decide_eq_true_eq]; exact List.le_total a b) G
  have h5 := List.pairwise_iff_getElem.1 h p q (by unfold sortT at h4; omega) h4 h2
  rw [decide_eq_true_eq] at h5
  have e1 : (sortT G).getD q default = (sortT G)[q] := by rw [List.getD_eq_getElem?_getD, List.getElem?_eq_getElem h4]; rfl
  have e2 : (sortT G).getD p default = (sortT G)[p]'(by omega) := by rw [List.getD_eq_getElem?_getD, List.getElem?_eq_getElem (by omega)]; rfl
  rw [e1, e2]
  exact List.not_lt.2 h5
theorem sort_grams (G : List Tx) : Lib.compact (sortT G) = sortBy id G := by
  rw [compact_keep]
  obtain ⟨h1, h2, h3⟩ := keepTo_ris (sortT_up G) (Nat.le_refl _)
  have hp : (sortT G).Perm G := List.mergeSort_perm _ _
  refine risBy_ext h1 (ris_sortBy G) fun x => ?_
  rw [mem_sortBy (told_id G)]
  constructor
  · exact fun h => hp.mem_iff.1 (h2 x h).1
  · intro h
    obtain ⟨k, hk, rfl⟩ := mem_getD (hp.mem_iff.2 h)
    obtain ⟨z, hz, e⟩ := h3 k hk
    rw [show (sortT G).getD k default = z from e.symm]; exact hz
theorem sort_subs {S zs : List QuV} (hS : Told textQ (S.map QuV.key)) (hs : SameK keyT zs S) (hu : UpIn keyT 0 zs.length zs) : (keepTo keyT zs zs.length).map QuV.key = sortBy textQ (S.map QuV.key) := by
  obtain ⟨h1, h2, h3⟩ := keepTo_ris hu (Nat.le_refl _)
  refine risBy_ext ?_ (ris_sortBy _) fun x => ?_
  · exact List.pairwise_map.2 h1
  · rw [mem_sortBy hS]
    constructor
    · intro h
      obtain ⟨z, hz, rfl⟩ := List.mem_map.1 h
      exact List.mem_map_of_mem (hs.1.mem_iff.1 (h2 z hz).1)
    · intro h
      obtain ⟨s, hsm, rfl⟩ := List.mem_map.1 h
      obtain ⟨k, hk, e⟩ := mem_getD (hs.1.mem_iff.2 hsm)
      obtain ⟨z, hz, e2⟩ := h3 k hk
      rw [e] at e2
      exact List.mem_map.2 ⟨z, hz, hS _ (List.mem_map_of_mem (hs.1.mem_iff.1 (h2 z hz).1)) _ h e2⟩
end Go.Proofs.YtdccjfabdfgomaaGreatDoor
