
/- slices.Clone at texts and queries; cmp.Less, slices.IsSorted at texts. -/
import Derived.Test.YtdccjfabdfgomaaGreatDoorUj
import Derived.Test.YtdccjfabdfgomaaGreatDoorShelf
import Derived.Sort.OwnSortedInts
import Derived.Shelf.SlIter.AllValuesS
namespace Go.Proofs.YtdccjfabdfgomaaGreatDoor
open Go.RowKit Go.Sort Sx

theorem Sx.tri_rowS {P : Program} {r : Hp} {f : FuncId} {args : List Value} {R : Rt} {E : TypeId} {sz n c : Nat} {a : Option Addr} {xs : List Value} (hn : 0 < n) (h : ∀ b cur, a = some ⟨b, 0, none⟩ → n ≤ c → c ≤ maxLen → cur.size = c * sz → cur.toList.take (n * sz) = xs → Tri P r f args [pt b (.cells cur E (0, 0))] R) :
    Tri P r f args [RowC E sz (.slice a n c) n xs] R :=
  tri_iff.2 fun w g ok al => by
    obtain ⟨g1, g2, dd, rfl, hR, rfl⟩ := al
    rcases hR.2 with ⟨_, h0, _⟩ | ⟨b, cap, cur, hv, rfl, h1, h2, h3, h4⟩
    · omega
    · injection hv with e1 e2 e3
      subst e3
      exact tri_iff.1 (h b cur e1 h1 h2 h3 h4) w _ ok ⟨_, emp, dd, rfl, rfl, rfl⟩
theorem encTx_map (l : List Tx) : l.map encStr = l.flatMap encTx := by
  induction l with
  | nil => rfl
  | cons x l ih => rw [List.map_cons, ih]; rfl
def sortT (l : List Tx) : List Tx := l.mergeSort fun x y => decide (x ≤ y)
theorem sortT_len (l : List Tx) : (sortT l).length = l.length := List.length_mergeSort l
theorem sortT_tri (r : Hp) (a : Option Addr) (c : Nat) (zs : List Tx) (hz : zs.length ≤ 10000000) : Tri Tryz.prog r 56 [.slice a zs.length c] [RowC 9 1 (.slice a zs.length c) zs.length (zs.flatMap encTx)] fun _ H => H = [RowC 9 1 (.slice a zs.length c) zs.length ((sortT zs).flatMap encTx)] := by
  rw [← encTx_map, ← encTx_map]
  by_cases h0 : zs = []
  · subst h0
    rw [show sortT [] = [] by simp [sortT]]
    refine tri_iff.2 fun w g ok al => ?_
    have := Tryz.slices_Sort_string_none a c w
    refine this.mono fun e w' h => ?_
    obtain ⟨he, hw⟩ := h
    subst hw
    exact ⟨_, _, g, he, rfl, al, To.refl ok⟩
  have hpos : 0 < zs.length := List.length_pos_iff.2 h0
  have hlen := sortT_len zs
  refine tri_rowS hpos fun b cur ha h1 h2 h3 h4 => ?_
  subst ha
  generalize hC : sortT zs = C at hlen ⊢
  refine tri_cv (tri_inplace (R := fun _ cur' => cur'.size = c * 1 ∧ cur'.toList.take (zs.length * 1) = C.map encStr) fun w ro hb => ?_) fun v H ⟨cur', hH, hs, ht⟩ => ?_
  · have hH : Holds encStr w b 0 zs.toArray := holds_of_block hb (by rw [show zs.length = zs.length * 1 by omega]; exact h4)
    refine (Tryz.slices_Sort_string b 0 c zs w hH (Array.getElem?_eq_some_iff.1 hb).1 (by omega)).mono fun e w' ⟨he, n, os, hw⟩ => ?_
    rw [show (zs.mergeSort fun x y => decide (x ≤ y)) = C from hC] at hw
    have hbs : b < w.heap.size := (Array.getElem?_eq_some_iff.1 hb).1
    refine ⟨_, putCells encStr 0 C.toArray cur, he, ?_, ?_, ?_, ?_⟩
    · rw [hw]
      show ((putRow encStr (Sort.ahead w n) b 0 C.toArray).heap ++ os)[b]? = _
      rw [Array.getElem?_append_left (by simpa [putRow, mapBlock, Sort.ahead] using hbs)]
      simp [putRow, mapBlock, Sort.ahead, Array.getElem?_modify, hb, onCells]
    · rw [hw]
      refine ⟨rfl, rfl, rfl, by simp [grow, putRow, mapBlock, Sort.ahead], fun k hk hne => ?_⟩
      have : b ≠ k := fun e => hne (by rw [e])
      show ((putRow encStr (Sort.ahead w n) b 0 C.toArray).heap ++ os)[k]? = _
      rw [Array.getElem?_append_left (by simpa [putRow, mapBlock, Sort.ahead] using hk)]
      simp [putRow, mapBlock, Sort.ahead, Array.getElem?_modify, this]
    · simp [putCells, h3]
    · have h5 := take_putCells cur C (by rw [h3, hlen]; omega)
      rw [hlen] at h5
      rw [Nat.mul_one]
      exact h5
  · refine ⟨[RowC 9 1 (.slice (some ⟨b, 0, none⟩) zs.length c) zs.length (C.map encStr)], rfl, fun g hg => ?_⟩
    subst hH
    refine all_imp (fun h e => ?_) hg
    have := RowC.of_pt (E := 9) (sz := 1) (n := zs.length) h1 h2 hs h e
    rwa [ht] at this
theorem compactT_tri (r : Hp) (a : Option Addr) (c : Nat) (zs : List Tx) (hz : zs.length ≤ 10000000) : Tri Tryz.prog r 55 [.slice a zs.length c] [RowC 9 1 (.slice a zs.length c) zs.length (zs.flatMap encTx)] fun w H => w = .slice a (Lib.compact zs).length c ∧ H = [RowC 9 1 w (Lib.compact zs).length ((Lib.compact zs).flatMap encTx)] := by
  rw [← encTx_map, ← encTx_map]
  by_cases h0 : zs = []
  · subst h0
    refine tri_iff.2 fun w g ok al => ?_
    have := Tryz.slices_Compact_string_empty a c w
    refine this.mono fun e w' ⟨he, hw⟩ => ?_
    subst hw
    exact ⟨_, _, g, he, ⟨rfl, rfl⟩, al, To.refl ok⟩
  have hpos : 0 < zs.length := List.length_pos_iff.2 h0
  have hcl : (Lib.compact zs).length ≤ zs.length := by
    unfold Lib.compact Lib.compactUpTo
    rw [List.length_map]
    refine Nat.le_trans (List.length_filter_le _ _) ?_
    rw [List.length_range]
    exact Nat.le_refl _
  refine tri_rowS hpos fun b cur ha h1 h2 h3 h4 => ?_
  subst ha
  generalize hC : Lib.compact zs = C at hcl ⊢
  refine tri_cv (tri_inplace (R := fun v cur' => v = .slice (some ⟨b, 0, none⟩) C.length c ∧ cur'.size = c * 1 ∧ cur'.toList.take (C.length * 1) = C.map encStr) fun w ro hb => ?_) fun v H ⟨cur', hH, hv, hs, ht⟩ => ?_
  · have hH : Holds encStr w b 0 zs.toArray := holds_of_block hb (by rw [show zs.length = zs.length * 1 by omega]; exact h4)
    refine (Tryz.slices_Compact_string b 0 c zs w hH (by omega) h1).mono fun e w' ⟨he, q, hw⟩ => ?_
    rw [hC] at he hw
    have hlen : (C ++ List.replicate (zs.length - C.length) []).length = zs.length := by rw [List.length_append, List.length_replicate]; omega
    refine ⟨_, putCells encStr 0 (C ++ List.replicate (zs.length - C.length) []).toArray cur, he, ?_, ?_, rfl, ?_, ?_⟩
    · rw [hw]
      simp [putRow, mapBlock, Sort.ahead, Array.getElem?_modify, hb, onCells]
    · rw [hw]
      refine ⟨rfl, rfl, rfl, by simp [putRow, mapBlock, Sort.ahead], fun k hk hne => ?_⟩
      have : b ≠ k := fun e => hne (by rw [e])
      simp [putRow, mapBlock, Sort.ahead, Array.getElem?_modify, this]
    · simp [putCells, h3]
    · have h5 := take_putCells cur (C ++ List.replicate (zs.length - C.length) []) (by rw [h3, hlen]; omega)
      have h6 := congrArg (List.take C.length) h5
      rw [List.take_take, hlen, Nat.min_eq_left hcl] at h6
      rw [Nat.mul_one, h6, List.map_append, List.take_append_of_le_length (by rw [List.length_map]; exact Nat.le_refl _), List.take_of_length_le (by rw [List.length_map]; exact Nat.le_refl _)]
  · refine ⟨[RowC 9 1 v C.length (C.map encStr)], ⟨hv, rfl⟩, fun g hg => ?_⟩
    subst hH; subst hv
    refine all_imp (fun h e => ?_) hg
    have := RowC.of_pt (E := 9) (sz := 1) (n := C.length) (by omega : C.length ≤ c) h2 hs h e
    rwa [ht] at this
end Go.Proofs.YtdccjfabdfgomaaGreatDoor

namespace Go.Proofs.YtdccjfabdfgomaaGreatDoor
open Go.RowKit Sx

set_option maxRecDepth 10000 in
set_option maxHeartbeats 1000000 in
theorem cloneT_any (r : Hp) (v : Value) (xs : List Tx) (hv : Els r 1 encTx v xs) (hone : (xs.flatMap encTx).all one? = true) (hl : xs.length ≤ 10000000) : Tri Tryz.prog r 85 [v] [] fun w H => ∃ a c, w = .slice a xs.length c ∧ H = [RowC 9 1 w xs.length (xs.flatMap encTx)] := by
  have hn := fun (a : Option Addr) (n c : Nat) (w : World) => Lib.run_eql_slice_nil (P := Tryz.prog) w 23 _ a n c 0 0 Tryz.underlying23
  refine Tri.free2 fun R HR => ?_
  obtain ⟨a, c, rfl⟩ := hv.form
  cases a with
  | none =>
    have hx : xs = [] := by
      rcases hv.2.2.2 with ⟨_, h0⟩ | ⟨b, off, cap, c, E, fz, h, _⟩
      · exact List.length_eq_zero_iff.1 h0
      · cases h
    subst hx
    refine fn_of_sw Tryz.func85 rfl _ rfl ?_; refine aen Tryz.ntmps85 ?_
    refine sw_put (A := RowC 9 1 (.slice none 0 0) 0 []) (RowC.nil _ _) ?_
    repeat' (first | ((with_reducible refine swo_kit ?_ ?_); rfl; intro w ds K' hK; gi_big_op; (with_reducible refine hK _ ?_); clear hK K' ds w) | refine aw0 ?_ | (refine ap2 ?_ ?_ <;> try intro h) | refine aw1 ?_ | (refine abx ?_; intro bb) | (refine abz ?_; intro bz) | (refine ahv ?_; intro v' hv') | (refine aac ?_; intro ac cc) | refine aw2 ?_ | (refine ap4 ?_ ?_ <;> try intro h) | apply True.intro)
    ((with_reducible apply fp_ret); exact res_1 rfl rfl)
    exact HR.out _ _ _ [RowC 9 1 (.slice none 0 0) 0 []] (by (exact atks)) ⟨_, _, rfl, rfl⟩
  | some ad =>
    refine fn_of_sw Tryz.func85 rfl _ rfl ?_; refine aen Tryz.ntmps85 ?_
    repeat' (first | ((with_reducible apply kx_bs0R); exact ty_el; exact ty_inf; intro bz; (refine apk ?_)) | ((with_reducible refine swo_isApp ?_); (with_reducible apply kx_appS (news := xs.flatMap encTx)); exact ty_el; exact ty_inf; rfl; rfl; rfl; rfl; exact hv.2; (exact atk); exact hone; (unfold maxLen; omega); (omega); intro a' c'; refine apm ?_) | ((with_reducible refine swo_kit ?_ ?_); rfl; intro w ds K' hK; gi_big_op; (with_reducible refine hK _ ?_); clear hK K' ds w) | refine aw0 ?_ | (refine ap2 ?_ ?_ <;> try intro h) | refine aw1 ?_ | (refine abx ?_; intro bb) | (refine abz ?_; intro bz) | (refine ahv ?_; intro v' hv') | (refine aac ?_; intro ac cc) | refine aw2 ?_ | (refine ap4 ?_ ?_ <;> try intro h) | apply True.intro)
    simp only [Nat.zero_add]
    ((with_reducible apply fp_ret); exact res_1 rfl rfl)
    exact HR.out _ _ _ [RowC 9 1 _ _ _] (by (exact atks)) ⟨a', c', rfl, rfl⟩
set_option maxRecDepth 10000 in
set_option maxHeartbeats 1000000 in
theorem cloneQ_any (r : Hp) (v : Value) (xs : List QuV) (hv : Els r 3 encQ v xs) (hone : (xs.flatMap encQ).all one? = true) (hl : xs.length ≤ 10000000) : Tri Tryz.prog r 86 [v] [] fun w H => ∃ a c, w = .slice a xs.length c ∧ H = [RowC 27 3 w xs.length (xs.flatMap encQ)] := by
  have hn := fun (a : Option Addr) (n c : Nat) (w : World) => Lib.run_eql_slice_nil (P := Tryz.prog) w 25 _ a n c 0 0 Tryz.underlying25
  refine Tri.free2 fun R HR => ?_
  obtain ⟨a, c, rfl⟩ := hv.form
  cases a with
  | none =>
    have hx : xs = [] := by
      rcases hv.2.2.2 with ⟨_, h0⟩ | ⟨b, off, cap, c, E, fz, h, _⟩
      · exact List.length_eq_zero_iff.1 h0
      · cases h
    subst hx
    refine fn_of_sw Tryz.func86 rfl _ rfl ?_; refine aen Tryz.ntmps86 ?_
    refine sw_put (A := RowC 27 3 (.slice none 0 0) 0 []) (RowC.nil _ _) ?_
    repeat' (first | ((with_reducible refine swo_kit ?_ ?_); rfl; intro w ds K' hK; gi_big_op; (with_reducible refine hK _ ?_); clear hK K' ds w) | refine aw0 ?_ | (refine ap2 ?_ ?_ <;> try intro h) | refine aw1 ?_ | (refine abx ?_; intro bb) | (refine abz ?_; intro bz) | (refine ahv ?_; intro v' hv') | (refine aac ?_; intro ac cc) | refine aw2 ?_ | (refine ap4 ?_ ?_ <;> try intro h) | apply True.intro)
    ((with_reducible apply fp_ret); exact res_1 rfl rfl)
    exact HR.out _ _ _ [RowC 27 3 (.slice none 0 0) 0 []] (by (exact atks)) ⟨_, _, rfl, rfl⟩
  | some ad =>
    refine fn_of_sw Tryz.func86 rfl _ rfl ?_; refine aen Tryz.ntmps86 ?_
    repeat' (first | ((with_reducible apply kx_bs0R); exact ty_el; exact ty_inf; intro bz; (refine apk ?_)) | ((with_reducible refine swo_isApp ?_); (with_reducible apply kx_appS (news := xs.flatMap encQ)); exact ty_el; exact ty_inf; rfl; rfl; rfl; rfl; exact hv.2; (exact atk); exact hone; (unfold maxLen; omega); (omega); intro a' c'; refine apm ?_) | ((with_reducible refine swo_kit ?_ ?_); rfl; intro w ds K' hK; gi_big_op; (with_reducible refine hK _ ?_); clear hK K' ds w) | refine aw0 ?_ | (refine ap2 ?_ ?_ <;> try intro h) | refine aw1 ?_ | (refine abx ?_; intro bb) | (refine abz ?_; intro bz) | (refine ahv ?_; intro v' hv') | (refine aac ?_; intro ac cc) | refine aw2 ?_ | (refine ap4 ?_ ?_ <;> try intro h) | apply True.intro)
    simp only [Nat.zero_add]
    ((with_reducible apply fp_ret); exact res_1 rfl rfl)
    exact HR.out _ _ _ [RowC 27 3 _ _ _] (by (exact atks)) ⟨a', c', rfl, rfl⟩
theorem encTx_one (xs : List Tx) : (xs.flatMap encTx).all one? = true := by simp [encTx, List.all_eq_true, one?]
theorem lessT_iff (a b : Tx) : Op.bytesLess a b = true ↔ a < b := by rw [bytesLess_eq, decide_eq_true_eq]
theorem naN_any (r : Hp) (a : Tx) : Tri Tryz.prog r 84 [.string (bs a)] [] fun w H => w = .bool false ∧ H = [] := by
  refine Tri.free2 fun R HR => ?_
  refine fn_of_sw Tryz.func84 rfl _ rfl ?_; refine aen Tryz.ntmps84 ?_
  repeat' (first | refine aw0m ?_ | (refine ap2 ?_ ?_ <;> try intro h) | refine aw1m ?_ | (refine abx ?_; intro bb) | (refine abz ?_; intro bz) | (refine ahv ?_; intro v' hv') | (refine aac ?_; intro ac cc) | refine aw2 ?_ | (refine ap4 ?_ ?_ <;> try intro h) | apply True.intro)
  ((with_reducible apply fp_ret); exact res_1 rfl rfl)
  exact HR.out _ _ _ [] (by (exact atks)) ⟨by simp, rfl⟩
end Go.Proofs.YtdccjfabdfgomaaGreatDoor
