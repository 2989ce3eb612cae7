
/- mudlarkref19.Docs, mudlarkkit.SameInts: their contracts. post.Docs: its contract. -/
import Derived.Test.YtkbajhiahpkgiaaGreatPf
import Derived.Test.YtkbajhiahpkgiaaGreatEl
import Derived.Test.YtkbajhiahpkgiaaGreatMp
import Derived.Test.YtkbajhiahpkgiaaGreatShelf
import Derived.Sort.OwnSortedInts
namespace Go.Proofs.YtkbajhiahpkgiaaGreat
open Go.RowKit Sx

def encI (i : Int) : List Value := [.int .i64 i]
/-- The documents of so many places, each once. -/
def docsK (l : List PlaceV) : Nat → List Int
  | 0 => []
  | k + 1 => docsK l k ++ (if k = 0 ∨ ¬ (l.getD k default).doc = (l.getD (k - 1) default).doc then [(l.getD k default).doc] else [])
theorem docsK_len (l : List PlaceV) : ∀ k, (docsK l k).length ≤ k
  | 0 => Nat.le_refl _
  | k + 1 => by
    have := docsK_len l k
    rw [docsK, List.length_append]
    split <;> simp <;> omega
set_option maxRecDepth 10000 in
set_option maxHeartbeats 2000000 in
theorem rdocs_any (r : Hp) (v : Value) (l : List PlaceV) (hv : Els r 2 encPl v l) (hl : l.length ≤ 10000000) : Tri Tryz.prog r 31 [v] [] fun w H => ∃ a c, w = .slice a (docsK l l.length).length c ∧ H = [RowC 3 1 w (docsK l l.length).length ((docsK l l.length).flatMap encI)] := by
  refine Tri.free2 fun R HR => ?_
  refine fn_of_sw Tryz.func31 rfl _ rfl ?_; refine aen Tryz.ntmps31 ?_
  refine sw_put (A := RowC 3 1 (.slice none 0 0) 0 []) (RowC.nil _ _) ?_
  repeat' (first | refine aw0m ?_ | (refine ap2 ?_ ?_ <;> try intro h) | refine aw1m ?_ | (refine abx ?_; intro bb) | (refine abz ?_; intro bz) | (refine ahv ?_; intro v' hv') | (refine aac ?_; intro ac cc) | refine aw2 ?_ | (refine ap4 ?_ ?_ <;> try intro h) | apply True.intro)
  refine sw_loop (fun gm t H' => ∃ (k : Nat) (D : List Int) (a : Option Addr) (c : Nat), gm = l.length + 1 - k ∧ (k ≤ l.length) ∧ (D = docsK l k) ∧ (∃ G, Takes [RowC 3 1 (.slice a D.length c) D.length (D.flatMap encI)] H' G) ∧ Sls t 36 [(0, v), (3, .slice a D.length c), (4, .int .i64 k)]) _ ⟨0, [], none, 0, rfl, Nat.zero_le _, rfl, ⟨_, by (exact atks)⟩, asls⟩ ?_
  rintro gm t H' ⟨k, D, a, c, rfl, hk, hD, ⟨G, hp⟩, hs'⟩
  revert t; refine sls_all ?_; iterate 33 intro uu'
  refine sw_takeG hp ?_; clear hp
  have hDl : D.length ≤ 10000000 := by have := docsK_len l k; rw [hD]; omega
  by_cases hlt : k < l.length
  · have hk1 : ((k : Int) - 1).toNat = k - 1 := by omega
    by_cases hc : k = 0 ∨ ¬ (l.getD k default).doc = (l.getD (k - 1) default).doc
    · have hn : D ++ [(l.getD k default).doc] = docsK l (k + 1) := by rw [docsK, if_pos hc, hD]
      have hnl : (D ++ [(l.getD k default).doc]).length = D.length + 1 := by simp
      rcases hc with hc | hc
      · repeat' (first | (first | ((with_reducible apply sw_draw (id := 5) 16 [(0, true), (1, true), (2, true), (3, true), (4, true), (5, true), (6, true), (7, true), (8, true), (9, true), (10, true), (11, true), (12, true), (13, true), (14, true), (15, true)] [] []); kernel_rfl; (exact atks); kernel_rfl; intro r' hl')) | (rw [hk1]) | (first | ((with_reducible apply kx_bs1); exact ty_el; exact ty_inf; rfl; rfl; rfl; intro bz; (refine apk ?_)) | ((with_reducible apply kx_bsN); exact ty_el; exact ty_inf; rfl; rfl; rfl; intro bz; (refine apk ?_))) | (first | ((with_reducible apply kx_append1); exact ty_el; exact ty_inf; rfl; rfl; rfl; (exact atk); (exact atk); rfl; omega; intro a' c'; (refine apk ?_)) | ((with_reducible apply kx_appendN); exact ty_el; exact ty_inf; rfl; rfl; rfl; rfl; (exact atk); (exact atk); rfl; rfl; omega; intro a' c'; (refine apk ?_))) | (exfalso; first | contradiction | omega) | refine aw0 ?_ | (refine ap2 ?_ ?_ <;> try intro h) | refine aw1 ?_ | (refine abx ?_; intro bb) | (refine abz ?_; intro bz) | (refine ahv ?_; intro v' hv') | (refine aac ?_; intro ac cc) | refine aw2 ?_ | (refine ap4 ?_ ?_ <;> try intro h) | apply True.intro)
        all_goals exact ⟨_, by omega, k + 1, D ++ [(l.getD k default).doc], a', c', rfl, by omega, hn, ⟨_, by rw [List.flatMap_append, List.length_append, show [(l.getD k default).doc].flatMap encI = [.int .i64 (l.getD k default).doc] from rfl]; (exact atks)⟩, asls⟩
      · repeat' (first | (first | ((with_reducible apply sw_draw (id := 5) 16 [(0, true), (1, true), (2, true), (3, true), (4, true), (5, true), (6, true), (7, true), (8, true), (9, true), (10, true), (11, true), (12, true), (13, true), (14, true), (15, true)] [] []); kernel_rfl; (exact atks); kernel_rfl; intro r' hl')) | (rw [hk1]) | (first | ((with_reducible apply kx_bs1); exact ty_el; exact ty_inf; rfl; rfl; rfl; intro bz; (refine apk ?_)) | ((with_reducible apply kx_bsN); exact ty_el; exact ty_inf; rfl; rfl; rfl; intro bz; (refine apk ?_))) | (first | ((with_reducible apply kx_append1); exact ty_el; exact ty_inf; rfl; rfl; rfl; (exact atk); (exact atk); rfl; omega; intro a' c'; (refine apk ?_)) | ((with_reducible apply kx_appendN); exact ty_el; exact ty_inf; rfl; rfl; rfl; rfl; (exact atk); (exact atk); rfl; rfl; omega; intro a' c'; (refine apk ?_))) | (exfalso; first | contradiction | omega) | refine aw0 ?_ | (refine ap2 ?_ ?_ <;> try intro h) | refine aw1 ?_ | (refine abx ?_; intro bb) | (refine abz ?_; intro bz) | (refine ahv ?_; intro v' hv') | (refine aac ?_; intro ac cc) | refine aw2 ?_ | (refine ap4 ?_ ?_ <;> try intro h) | apply True.intro)
        all_goals exact ⟨_, by omega, k + 1, D ++ [(l.getD k default).doc], a', c', rfl, by omega, hn, ⟨_, by rw [List.flatMap_append, List.length_append, show [(l.getD k default).doc].flatMap encI = [.int .i64 (l.getD k default).doc] from rfl]; (exact atks)⟩, asls⟩
    · have hn : D = docsK l (k + 1) := by rw [docsK, if_neg hc, hD, List.append_nil]
      have hc1 : ¬ k = 0 := fun h => hc (.inl h)
      have hc2 : (l.getD k default).doc = (l.getD (k - 1) default).doc := Classical.byContradiction fun h => hc (.inr h)
      repeat' (first | (first | ((with_reducible apply sw_draw (id := 5) 16 [(0, true), (1, true), (2, true), (3, true), (4, true), (5, true), (6, true), (7, true), (8, true), (9, true), (10, true), (11, true), (12, true), (13, true), (14, true), (15, true)] [] []); kernel_rfl; (exact atks); kernel_rfl; intro r' hl')) | (rw [hk1]) | (exfalso; first | contradiction | omega) | refine aw0 ?_ | (refine ap2 ?_ ?_ <;> try intro h) | refine aw1 ?_ | (refine abx ?_; intro bb) | (refine abz ?_; intro bz) | (refine ahv ?_; intro v' hv') | (refine aac ?_; intro ac cc) | refine aw2 ?_ | (refine ap4 ?_ ?_ <;> try intro h) | apply True.intro)
      all_goals exact ⟨_, by omega, k + 1, D, a, c, rfl, by omega, hn, ⟨_, atks⟩, asls⟩
  · obtain rfl : k = l.length := by omega
    rw [← hD] at HR
    repeat' (first | (exfalso; first | contradiction | omega) | refine aw0 ?_ | (refine ap2 ?_ ?_ <;> try intro h) | refine aw1 ?_ | (refine abx ?_; intro bb) | (refine abz ?_; intro bz) | (refine ahv ?_; intro v' hv') | (refine aac ?_; intro ac cc) | refine aw2 ?_ | (refine ap4 ?_ ?_ <;> try intro h) | apply True.intro)
    ((with_reducible apply fp_ret); exact res_1 rfl rfl)
    exact HR.out _ _ _ [RowC 3 1 _ _ _] (by (exact atks)) ⟨_, _, rfl, rfl⟩
theorem eqD_of {l m : List Int} (hn : l.length = m.length) (h : ∀ k, k < l.length → l.getD k default = m.getD k default) : l = m := by
  refine List.ext_getElem hn fun k h1 h2 => ?_
  have := h k h1
  rw [List.getD_eq_getElem?_getD, List.getD_eq_getElem?_getD, List.getElem?_eq_getElem h1, List.getElem?_eq_getElem h2] at this
  exact this
set_option maxRecDepth 10000 in
set_option maxHeartbeats 2000000 in
theorem sameInts_any (r : Hp) (v w : Value) (l m : List Int) (hv : Els r 1 encI v l) (hw : Els r 1 encI w m) : Tri Tryz.prog r 29 [v, w] [] fun u H => u = .bool (decide (l = m)) ∧ H = [] := by
  refine Tri.free2 fun R HR => ?_
  have hln : l.length ≤ maxLen := hv.2.2.1
  have hmn : m.length ≤ maxLen := hw.2.2.1
  unfold maxLen at hln hmn
  by_cases hlm : l.length = m.length
  · refine fn_of_sw Tryz.func29 rfl _ rfl ?_; refine aen Tryz.ntmps29 ?_
    repeat' (first | (exfalso; first | contradiction | omega) | refine aw0 ?_ | (refine ap2 ?_ ?_ <;> try intro h) | refine aw1 ?_ | (refine abx ?_; intro bb) | (refine abz ?_; intro bz) | (refine ahv ?_; intro v' hv') | (refine aac ?_; intro ac cc) | refine aw2 ?_ | (refine ap4 ?_ ?_ <;> try intro h) | apply True.intro)
    refine sw_loop (fun gm t H' => ∃ k : Nat, gm = l.length + 1 - k ∧ (k ≤ l.length) ∧ (∀ j, j < k → l.getD j default = m.getD j default) ∧ (∃ G, Takes [] H' G) ∧ Sls t 26 [(0, v), (1, w), (5, .int .i64 k)]) _ ⟨0, rfl, Nat.zero_le _, fun j h => absurd h (by omega), ⟨_, by (exact atks)⟩, asls⟩ ?_
    rintro gm t H' ⟨k, rfl, hk, hs, ⟨G, hp⟩, hs'⟩
    revert t; refine sls_all ?_; iterate 23 intro uu'
    refine sw_takeG hp ?_; clear hp
    by_cases hlt : k < l.length
    · by_cases he : l.getD k default = m.getD k default
      · repeat' (first | (first | ((with_reducible apply sw_draw (id := 6) 9 [(0, true), (1, true), (2, true), (3, true), (4, true), (5, true), (6, true), (7, true), (8, true)] [] []); kernel_rfl; (exact atks); kernel_rfl; intro r' hl')) | (exfalso; first | contradiction | omega) | refine aw0 ?_ | (refine ap2 ?_ ?_ <;> try intro h) | refine aw1 ?_ | (refine abx ?_; intro bb) | (refine abz ?_; intro bz) | (refine ahv ?_; intro v' hv') | (refine aac ?_; intro ac cc) | refine aw2 ?_ | (refine ap4 ?_ ?_ <;> try intro h) | apply True.intro)
        all_goals exact ⟨_, by omega, k + 1, rfl, by omega, fun j h => (by
          by_cases c : j = k
          · rw [c]; exact he
          · exact hs j (by omega)), ⟨_, atks⟩, asls⟩
      · have hne : ¬ l = m := fun e => he (by rw [e])
        rw [decide_eq_false hne] at HR
        repeat' (first | (first | ((with_reducible apply sw_draw (id := 6) 9 [(0, true), (1, true), (2, true), (3, true), (4, true), (5, true), (6, true), (7, true), (8, true)] [] []); kernel_rfl; (exact atks); kernel_rfl; intro r' hl')) | (exfalso; first | contradiction | omega) | refine aw0 ?_ | (refine ap2 ?_ ?_ <;> try intro h) | refine aw1 ?_ | (refine abx ?_; intro bb) | (refine abz ?_; intro bz) | (refine ahv ?_; intro v' hv') | (refine aac ?_; intro ac cc) | refine aw2 ?_ | (refine ap4 ?_ ?_ <;> try intro h) | apply True.intro)
        all_goals (((with_reducible apply fp_ret); exact res_1 rfl rfl); exact HR.out _ _ _ [] Takes.all ⟨rfl, rfl⟩)
    · obtain rfl : k = l.length := by omega
      rw [decide_eq_true (eqD_of hlm hs)] at HR
      repeat' (first | (exfalso; first | contradiction | omega) | refine aw0 ?_ | (refine ap2 ?_ ?_ <;> try intro h) | refine aw1 ?_ | (refine abx ?_; intro bb) | (refine abz ?_; intro bz) | (refine ahv ?_; intro v' hv') | (refine aac ?_; intro ac cc) | refine aw2 ?_ | (refine ap4 ?_ ?_ <;> try intro h) | apply True.intro)
      all_goals (((with_reducible apply fp_ret); exact res_1 rfl rfl); exact HR.out _ _ _ [] Takes.all ⟨rfl, rfl⟩)
  · have hne : ¬ l = m := fun e => hlm (by rw [e])
    rw [decide_eq_false hne] at HR
    refine fn_of_sw Tryz.func29 rfl _ rfl ?_; refine aen Tryz.ntmps29 ?_
    repeat' (first | (exfalso; first | contradiction | omega) | refine aw0 ?_ | (refine ap2 ?_ ?_ <;> try intro h) | refine aw1 ?_ | (refine abx ?_; intro bb) | (refine abz ?_; intro bz) | (refine ahv ?_; intro v' hv') | (refine aac ?_; intro ac cc) | refine aw2 ?_ | (refine ap4 ?_ ?_ <;> try intro h) | apply True.intro)
    all_goals (((with_reducible apply fp_ret); exact res_1 rfl rfl); exact HR.out _ _ _ [] Takes.all ⟨rfl, rfl⟩)
end Go.Proofs.YtkbajhiahpkgiaaGreat

namespace Go.Proofs.YtkbajhiahpkgiaaGreat
open Go.RowKit Go.Sort Sx

theorem Sx.tri_rowI {P : Program} {r : Hp} {f : FuncId} {args : List Value} {R : Rt} {E : TypeId} {sz n c : Nat} {a : Option Addr} {xs : List Value} (hn : 0 < n) (h : ∀ b cur, a = some ⟨b, 0, none⟩ → n ≤ c → c ≤ maxLen → cur.size = c * sz → cur.toList.take (n * sz) = xs → Tri P r f args [pt b (.cells cur E (0, 0))] R) :
    Tri P r f args [RowC E sz (.slice a n c) n xs] R :=
  tri_iff.2 fun w g ok al => by
    obtain ⟨g1, g2, dd, rfl, hR, rfl⟩ := al
    rcases hR.2 with ⟨_, h0, _⟩ | ⟨b, cap, cur, hv, rfl, h1, h2, h3, h4⟩
    · omega
    · injection hv with e1 e2 e3
      subst e3
      exact tri_iff.1 (h b cur e1 h1 h2 h3 h4) w _ ok ⟨_, emp, dd, rfl, rfl, rfl⟩
theorem encI_map (l : List Int) : l.map (Value.int .i64) = l.flatMap encI := by
  induction l with
  | nil => rfl
  | cons x l ih => rw [List.map_cons, ih]; rfl
theorem compactI_tri (r : Hp) (a : Option Addr) (c : Nat) (zs : List Int) (hz : zs.length ≤ 10000000) : Tri Tryz.prog r 67 [.slice a zs.length c] [RowC 3 1 (.slice a zs.length c) zs.length (zs.flatMap encI)] fun w H => w = .slice a (Lib.compact zs).length c ∧ H = [RowC 3 1 w (Lib.compact zs).length ((Lib.compact zs).flatMap encI)] := by
  rw [← encI_map, ← encI_map]
  by_cases h0 : zs = []
  · subst h0
    refine tri_iff.2 fun w g ok al => ?_
    have := Tryz.slices_Compact_int_empty a c w
    refine this.mono fun e w' ⟨he, hw⟩ => ?_
    subst hw
    exact ⟨_, _, g, he, ⟨rfl, rfl⟩, al, To.refl ok⟩
  have hpos : 0 < zs.length := List.length_pos_iff.2 h0
  have hcl : (Lib.compact zs).length ≤ zs.length := by
    unfold Lib.compact Lib.compactUpTo
    rw [List.length_map]
    refine Nat.le_trans (List.length_filter_le _ _) ?_
    rw [List.length_range]
    exact Nat.le_refl _
  refine tri_rowI hpos fun b cur ha h1 h2 h3 h4 => ?_
  subst ha
  generalize hC : Lib.compact zs = C at hcl ⊢
  refine tri_cv (tri_inplace (R := fun v cur' => v = .slice (some ⟨b, 0, none⟩) C.length c ∧ cur'.size = c * 1 ∧ cur'.toList.take (C.length * 1) = C.map (Value.int .i64)) fun w ro hb => ?_) fun v H ⟨cur', hH, hv, hs, ht⟩ => ?_
  · have hH : Holds (Value.int .i64) w b 0 zs.toArray := holds_of_blockI hb (by rw [show zs.length = zs.length * 1 by omega]; exact h4)
    refine (Tryz.slices_Compact_int b 0 c zs w hH (by omega) h1).mono fun e w' ⟨he, q, hw⟩ => ?_
    rw [hC] at he hw
    have hlen : (C ++ List.replicate (zs.length - C.length) 0).length = zs.length := by rw [List.length_append, List.length_replicate]; omega
    refine ⟨_, putCells (Value.int .i64) 0 (C ++ List.replicate (zs.length - C.length) 0).toArray cur, he, ?_, ?_, rfl, ?_, ?_⟩
    · rw [hw]
      simp [putRow, mapBlock, Sort.ahead, Array.getElem?_modify, hb, onCells]
    · rw [hw]
      refine ⟨rfl, rfl, rfl, by simp [putRow, mapBlock, Sort.ahead], fun k hk hne => ?_⟩
      have : b ≠ k := fun e => hne (by rw [e])
      simp [putRow, mapBlock, Sort.ahead, Array.getElem?_modify, this]
    · simp [putCells, h3]
    · have h5 := take_putCellsI cur (C ++ List.replicate (zs.length - C.length) 0) (by rw [h3, hlen]; omega)
      have h6 := congrArg (List.take C.length) h5
      rw [List.take_take, hlen, Nat.min_eq_left hcl] at h6
      rw [Nat.mul_one, h6, List.map_append, List.take_append_of_le_length (by rw [List.length_map]; exact Nat.le_refl _), List.take_of_length_le (by rw [List.length_map]; exact Nat.le_refl _)]
  · refine ⟨[RowC 3 1 v C.length (C.map (Value.int .i64))], ⟨hv, rfl⟩, fun g hg => ?_⟩
    subst hH; subst hv
    refine all_imp (fun h e => ?_) hg
    have := RowC.of_pt (E := 3) (sz := 1) (n := C.length) (by omega : C.length ≤ c) h2 hs h e
    rwa [ht] at this
theorem compact_docs (l : List PlaceV) : Lib.compact (l.map (·.doc)) = docsK l l.length := by
  have key : ∀ k, k ≤ l.length → Lib.compactUpTo (l.map (·.doc)).toArray k = docsK l k := by
    intro k
    induction k with
    | zero => intro _; rfl
    | succ k ih =>
      intro hk
      have e1 : ∀ j, j < l.length → (l.map (·.doc)).toArray[j]! = (l.getD j default).doc := fun j hj => by
        simp [hj]
      rw [Lib.compactUpTo_succ, docsK, ih (by omega)]
      congr 1
      by_cases h0 : k = 0
      · subst h0
        rw [if_pos (Lib.keeps_lt_one _ 0 (by omega)), e1 0 (by omega)]
        exact (if_pos (.inl rfl)).symm
      · by_cases h1 : (l.getD k default).doc = (l.getD (k - 1) default).doc
        · have hk : Lib.keeps (l.map (·.doc)).toArray k = false := Lib.keeps_neg (by omega) (by rw [e1 k (by omega), e1 (k - 1) (by omega)]; exact h1)
          have hn : ¬ (k = 0 ∨ ¬ (l.getD k default).doc = (l.getD (k - 1) default).doc) := fun h => h.elim h0 fun h => h h1
          rw [hk]
          exact (if_neg hn).symm
        · have hk : Lib.keeps (l.map (·.doc)).toArray k = true := Lib.keeps_pos (by rw [e1 k (by omega), e1 (k - 1) (by omega)]; exact h1)
          rw [if_pos hk, e1 k (by omega)]
          exact (if_pos (.inr h1)).symm
  unfold Lib.compact
  rw [List.length_map]
  exact key _ (Nat.le_refl _)
set_option maxRecDepth 10000 in
set_option maxHeartbeats 2000000 in
theorem docs_post_any (r : Hp) (v : Value) (l : List PlaceV) (hv : Els r 2 encPl v l) (hl : l.length ≤ 10000000) : Tri Tryz.prog r 30 [v] [] fun w H => ∃ a c, w = .slice a (docsK l l.length).length c ∧ H = [RowC 3 1 w (docsK l l.length).length ((docsK l l.length).flatMap encI)] := by
  rw [← compact_docs]
  refine Tri.free2 fun R HR => ?_
  refine fn_of_sw Tryz.func30 rfl _ rfl ?_; refine aen Tryz.ntmps30 ?_
  refine sw_put (A := RowC 3 1 (.slice none 0 0) 0 []) (RowC.nil _ _) ?_
  repeat' (first | refine aw0m ?_ | (refine ap2 ?_ ?_ <;> try intro h) | refine aw1m ?_ | (refine abx ?_; intro bb) | (refine abz ?_; intro bz) | (refine ahv ?_; intro v' hv') | (refine aac ?_; intro ac cc) | refine aw2 ?_ | (refine ap4 ?_ ?_ <;> try intro h) | apply True.intro)
  refine sw_loop (fun gm t H' => ∃ (k : Nat) (a : Option Addr) (c : Nat), gm = l.length + 1 - k ∧ (k ≤ l.length) ∧ (∃ G, Takes [RowC 3 1 (.slice a k c) k (((l.take k).map (·.doc)).flatMap encI)] H' G) ∧ Sls t 19 [(2, .slice a k c), (5, v), (6, .int .i64 l.length), (7, .int .i64 k)]) _ ⟨0, none, 0, rfl, Nat.zero_le _, ⟨_, by (exact atks)⟩, asls⟩ ?_
  rintro gm t H' ⟨k, a, c, rfl, hk, ⟨G, hp⟩, hs'⟩
  revert t; refine sls_all ?_; iterate 15 intro uu'
  refine sw_takeG hp ?_; clear hp
  by_cases hlt : k < l.length
  · repeat' (first | (first | ((with_reducible apply kx_bs1); exact ty_el; exact ty_inf; rfl; rfl; rfl; intro bz; (refine apk ?_)) | ((with_reducible apply kx_bsN); exact ty_el; exact ty_inf; rfl; rfl; rfl; intro bz; (refine apk ?_))) | (first | ((with_reducible apply kx_append1); exact ty_el; exact ty_inf; rfl; rfl; rfl; (exact atk); (exact atk); rfl; omega; intro a' c'; (refine apk ?_)) | ((with_reducible apply kx_appendN); exact ty_el; exact ty_inf; rfl; rfl; rfl; rfl; (exact atk); (exact atk); rfl; rfl; omega; intro a' c'; (refine apk ?_))) | (exfalso; first | contradiction | omega) | refine aw0 ?_ | (refine ap2 ?_ ?_ <;> try intro h) | refine aw1 ?_ | (refine abx ?_; intro bb) | (refine abz ?_; intro bz) | (refine ahv ?_; intro v' hv') | (refine aac ?_; intro ac cc) | refine aw2 ?_ | (refine ap4 ?_ ?_ <;> try intro h) | apply True.intro)
    exact ⟨_, by omega, k + 1, a', c', rfl, by omega, ⟨_, by rw [take_getD (d := default) hlt, List.map_append, List.flatMap_append]; (exact atks)⟩, asls⟩
  · obtain rfl : k = l.length := by omega
    have hcm := compactI_tri r a c (l.map (·.doc)) (by rw [List.length_map]; exact hl)
    rw [List.length_map] at hcm
    rw [List.take_length]
    repeat' (first | (refine acl Tryz.func67 ?_; refine acr (hcm) ?_; rintro v' H' ⟨rfl, rfl⟩; all_goals refine apl ?_) | (exfalso; first | contradiction | omega) | refine aw0 ?_ | (refine ap2 ?_ ?_ <;> try intro h) | refine aw1 ?_ | (refine abx ?_; intro bb) | (refine abz ?_; intro bz) | (refine ahv ?_; intro v' hv') | (refine aac ?_; intro ac cc) | refine aw2 ?_ | (refine ap4 ?_ ?_ <;> try intro h) | apply True.intro)
    ((with_reducible apply fp_ret); exact res_1 rfl rfl)
    exact HR.out _ _ _ [RowC 3 1 _ _ _] (by (exact atks)) ⟨_, _, rfl, rfl⟩
end Go.Proofs.YtkbajhiahpkgiaaGreat
