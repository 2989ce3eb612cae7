
/- slices.Clone at texts and queries; cmp.Less, slices.IsSorted at texts. -/
import Derived.Test.YtgodcegaffgfjaaDoorUk
namespace Go.Proofs.YtgodcegaffgfjaaDoor
open Go.RowKit Sx

set_option maxRecDepth 10000 in
set_option maxHeartbeats 1000000 in
theorem cloneT_any (r : Hp) (v : Value) (xs : List Tx) (hv : Els r 1 encTx v xs) (hone : (xs.flatMap encTx).all one? = true) (hl : xs.length ≤ 10000000) : Tri Tryd.prog r 32 [v] [] fun w H => ∃ a c, w = .slice a xs.length c ∧ H = [RowC 9 1 w xs.length (xs.flatMap encTx)] := by
  have hn := fun (a : Option Addr) (n c : Nat) (w : World) => Lib.run_eql_slice_nil (P := Tryd.prog) w 23 _ a n c 0 0 Tryd.underlying23
  refine Tri.free2 fun R HR => ?_
  obtain ⟨a, c, rfl⟩ := hv.form
  cases a with
  | none =>
    have hx : xs = [] := by
      rcases hv.2.2.2 with ⟨_, h0⟩ | ⟨b, off, cap, c, E, fz, h, _⟩
      · exact List.length_eq_zero_iff.1 h0
      · cases h
    subst hx
    refine fn_of_sw Tryd.func32 rfl _ rfl ?_; refine aen Tryd.ntmps32 ?_
    refine sw_put (A := RowC 9 1 (.slice none 0 0) 0 []) (RowC.nil _ _) ?_
    repeat' (first | ((with_reducible refine swo_kit ?_ ?_); rfl; intro w ds K' hK; gi_big_op; (with_reducible refine hK _ ?_); clear hK K' ds w) | refine aw0 ?_ | (refine ap2 ?_ ?_ <;> try intro h) | refine aw1 ?_ | (refine abx ?_; intro bb) | (refine abz ?_; intro bz) | (refine ahv ?_; intro v' hv') | (refine aac ?_; intro ac cc) | refine aw2 ?_ | (refine ap4 ?_ ?_ <;> try intro h) | apply True.intro)
    ((with_reducible apply fp_ret); exact res_1 rfl rfl)
    exact HR.out _ _ _ [RowC 9 1 (.slice none 0 0) 0 []] (by (exact atks)) ⟨_, _, rfl, rfl⟩
  | some ad =>
    refine fn_of_sw Tryd.func32 rfl _ rfl ?_; refine aen Tryd.ntmps32 ?_
    repeat' (first | ((with_reducible apply kx_bs0R); exact ty_el; exact ty_inf; intro bz; (refine apk ?_)) | ((with_reducible refine swo_isApp ?_); (with_reducible apply kx_appS (news := xs.flatMap encTx)); exact ty_el; exact ty_inf; rfl; rfl; rfl; rfl; exact hv.2; (exact atk); exact hone; (unfold maxLen; omega); (omega); intro a' c'; refine apm ?_) | ((with_reducible refine swo_kit ?_ ?_); rfl; intro w ds K' hK; gi_big_op; (with_reducible refine hK _ ?_); clear hK K' ds w) | refine aw0 ?_ | (refine ap2 ?_ ?_ <;> try intro h) | refine aw1 ?_ | (refine abx ?_; intro bb) | (refine abz ?_; intro bz) | (refine ahv ?_; intro v' hv') | (refine aac ?_; intro ac cc) | refine aw2 ?_ | (refine ap4 ?_ ?_ <;> try intro h) | apply True.intro)
    simp only [Nat.zero_add]
    ((with_reducible apply fp_ret); exact res_1 rfl rfl)
    exact HR.out _ _ _ [RowC 9 1 _ _ _] (by (exact atks)) ⟨a', c', rfl, rfl⟩
set_option maxRecDepth 10000 in
set_option maxHeartbeats 1000000 in
theorem cloneQ_any (r : Hp) (v : Value) (xs : List QuV) (hv : Els r 3 encQ v xs) (hone : (xs.flatMap encQ).all one? = true) (hl : xs.length ≤ 10000000) : Tri Tryd.prog r 54 [v] [] fun w H => ∃ a c, w = .slice a xs.length c ∧ H = [RowC 30 3 w xs.length (xs.flatMap encQ)] := by
  have hn := fun (a : Option Addr) (n c : Nat) (w : World) => Lib.run_eql_slice_nil (P := Tryd.prog) w 22 _ a n c 0 0 Tryd.underlying22
  refine Tri.free2 fun R HR => ?_
  obtain ⟨a, c, rfl⟩ := hv.form
  cases a with
  | none =>
    have hx : xs = [] := by
      rcases hv.2.2.2 with ⟨_, h0⟩ | ⟨b, off, cap, c, E, fz, h, _⟩
      · exact List.length_eq_zero_iff.1 h0
      · cases h
    subst hx
    refine fn_of_sw Tryd.func54 rfl _ rfl ?_; refine aen Tryd.ntmps54 ?_
    refine sw_put (A := RowC 30 3 (.slice none 0 0) 0 []) (RowC.nil _ _) ?_
    repeat' (first | ((with_reducible refine swo_kit ?_ ?_); rfl; intro w ds K' hK; gi_big_op; (with_reducible refine hK _ ?_); clear hK K' ds w) | refine aw0 ?_ | (refine ap2 ?_ ?_ <;> try intro h) | refine aw1 ?_ | (refine abx ?_; intro bb) | (refine abz ?_; intro bz) | (refine ahv ?_; intro v' hv') | (refine aac ?_; intro ac cc) | refine aw2 ?_ | (refine ap4 ?_ ?_ <;> try intro h) | apply True.intro)
    ((with_reducible apply fp_ret); exact res_1 rfl rfl)
    exact HR.out _ _ _ [RowC 30 3 (.slice none 0 0) 0 []] (by (exact atks)) ⟨_, _, rfl, rfl⟩
  | some ad =>
    refine fn_of_sw Tryd.func54 rfl _ rfl ?_; refine aen Tryd.ntmps54 ?_
    repeat' (first | ((with_reducible apply kx_bs0R); exact ty_el; exact ty_inf; intro bz; (refine apk ?_)) | ((with_reducible refine swo_isApp ?_); (with_reducible apply kx_appS (news := xs.flatMap encQ)); exact ty_el; exact ty_inf; rfl; rfl; rfl; rfl; exact hv.2; (exact atk); exact hone; (unfold maxLen; omega); (omega); intro a' c'; refine apm ?_) | ((with_reducible refine swo_kit ?_ ?_); rfl; intro w ds K' hK; gi_big_op; (with_reducible refine hK _ ?_); clear hK K' ds w) | refine aw0 ?_ | (refine ap2 ?_ ?_ <;> try intro h) | refine aw1 ?_ | (refine abx ?_; intro bb) | (refine abz ?_; intro bz) | (refine ahv ?_; intro v' hv') | (refine aac ?_; intro ac cc) | refine aw2 ?_ | (refine ap4 ?_ ?_ <;> try intro h) | apply True.intro)
    simp only [Nat.zero_add]
    ((with_reducible apply fp_ret); exact res_1 rfl rfl)
    exact HR.out _ _ _ [RowC 30 3 _ _ _] (by (exact atks)) ⟨a', c', rfl, rfl⟩
theorem encTx_one (xs : List Tx) : (xs.flatMap encTx).all one? = true := by simp [encTx, List.all_eq_true, one?]
theorem lessT_iff (a b : Tx) : Op.bytesLess a b = true ↔ a < b := by rw [bytesLess_eq, decide_eq_true_eq]
theorem naN_any (r : Hp) (a : Tx) : Tri Tryd.prog r 53 [.string (bs a)] [] fun w H => w = .bool false ∧ H = [] := by
  refine Tri.free2 fun R HR => ?_
  refine fn_of_sw Tryd.func53 rfl _ rfl ?_; refine aen Tryd.ntmps53 ?_
  repeat' (first | refine aw0m ?_ | (refine ap2 ?_ ?_ <;> try intro h) | refine aw1m ?_ | (refine abx ?_; intro bb) | (refine abz ?_; intro bz) | (refine ahv ?_; intro v' hv') | (refine aac ?_; intro ac cc) | refine aw2 ?_ | (refine ap4 ?_ ?_ <;> try intro h) | apply True.intro)
  ((with_reducible apply fp_ret); exact res_1 rfl rfl)
  exact HR.out _ _ _ [] (by (exact atks)) ⟨by simp, rfl⟩
set_option maxHeartbeats 1000000 in
theorem less_any (r : Hp) (a b : Tx) : Tri Tryd.prog r 48 [.string (bs a), .string (bs b)] [] fun w H => w = .bool (decide (a < b)) ∧ H = [] := by
  refine Tri.free2 fun R HR => ?_
  have h1 := naN_any r a
  have h2 := naN_any r b
  refine fn_of_sw Tryd.func48 rfl _ rfl ?_; refine aen Tryd.ntmps48 ?_
  repeat' (first | (refine acl Tryd.func53 ?_; refine acr (h1) ?_; rintro v' H' ⟨rfl, rfl⟩; all_goals refine apl ?_) | (exfalso; first | contradiction | omega) | refine aw0 ?_ | (refine ap2 ?_ ?_ <;> try intro h) | refine aw1 ?_ | (refine abx ?_; intro bb) | (refine abz ?_; intro bz) | (refine ahv ?_; intro v' hv') | (refine aac ?_; intro ac cc) | refine aw2 ?_ | (refine ap4 ?_ ?_ <;> try intro h) | apply True.intro)
  all_goals
    ((with_reducible apply fp_ret); exact res_1 rfl rfl)
    exact HR.out _ _ _ [] (by (exact atks)) ⟨by congr 1; rw [Bool.eq_iff_iff, decide_eq_true_eq, ← lessT_iff], rfl⟩
def UpT (gs : List Tx) : Prop := ∀ i, i + 1 < gs.length → ¬ gs.getD (i + 1) default < gs.getD i default
set_option maxRecDepth 10000 in
set_option maxHeartbeats 2000000 in
theorem isSorted_any (r : Hp) (v : Value) (gs : List Tx) (hv : Els r 1 encTx v gs) : Tri Tryd.prog r 30 [v] [] fun w H => (∃ b : Bool, w = .bool b ∧ (b = true ↔ UpT gs)) ∧ H = [] := by
  refine Tri.free2 fun R HR => ?_
  have hl := maxI hv.2.2.1
  refine fn_of_sw Tryd.func30 rfl _ rfl ?_; refine aen Tryd.ntmps30 ?_
  repeat' (first | (exfalso; first | contradiction | omega) | refine aw0 ?_ | (refine ap2 ?_ ?_ <;> try intro h) | refine aw1 ?_ | (refine abx ?_; intro bb) | (refine abz ?_; intro bz) | (refine ahv ?_; intro v' hv') | (refine aac ?_; intro ac cc) | refine aw2 ?_ | (refine ap4 ?_ ?_ <;> try intro h) | apply True.intro)
  refine sw_loop (fun gm t H' => ∃ j : Nat, gm = gs.length + 1 - j ∧ (j + 1 ≤ gs.length ∨ j = 0) ∧ (∀ i, gs.length ≤ i + 1 + j → i + 1 < gs.length → ¬ gs.getD (i + 1) default < gs.getD i default) ∧ (∃ G, Takes [] H' G) ∧ Sls t 21 [(0, v), (3, .int .i64 ((gs.length : Int) - 1 - j))]) _ ⟨0, rfl, .inr rfl, fun i h1 h2 => absurd h1 (by omega), ⟨_, atks⟩, asls⟩ ?_
  rintro gm t H' ⟨j, rfl, hj, hu, ⟨G, hp⟩, hs'⟩
  revert t; refine sls_all ?_; iterate 19 intro uu'
  refine sw_takeG hp ?_; clear hp
  by_cases hlt : j + 1 < gs.length
  · repeat' (first | ((with_reducible apply sw_draw (id := 4) 10 [(0, true), (1, true), (2, true), (3, true), (4, true), (5, true), (6, true), (7, true), (8, true), (9, false)] [] []); kernel_rfl; (exact atks); kernel_rfl; intro r' hl') | (refine acl Tryd.func48 ?_; refine acr (less_any _ _ _) ?_; rintro v' H' ⟨rfl, rfl⟩; all_goals refine apl ?_) | (exfalso; first | contradiction | omega) | refine aw0 ?_ | (refine ap2 ?_ ?_ <;> try intro h) | refine aw1 ?_ | (refine abx ?_; intro bb) | (refine abz ?_; intro bz) | (refine ahv ?_; intro v' hv') | (refine aac ?_; intro ac cc) | refine aw2 ?_ | (refine ap4 ?_ ?_ <;> try intro h) | apply True.intro)
    · ((with_reducible apply fp_ret); exact res_1 rfl rfl)
      have e1 : ((gs.length : Int) - 1 - j).toNat = (gs.length - 2 - j) + 1 := by omega
      have e2 : ((gs.length : Int) - 1 - j - 1).toNat = gs.length - 2 - j := by omega
      rw [e1, e2] at h
      exact HR.out _ _ _ [] (by (exact atks)) ⟨⟨false, rfl, ⟨fun e => (by cases e), fun hu' => absurd h (hu' _ (by omega))⟩⟩, rfl⟩
    · have hu2 : ∀ i, gs.length ≤ i + 1 + (j + 1) → i + 1 < gs.length → ¬ gs.getD (i + 1) default < gs.getD i default := by
        have e1 : ((gs.length : Int) - 1 - j).toNat = (gs.length - 2 - j) + 1 := by omega
        have e2 : ((gs.length : Int) - 1 - j - 1).toNat = gs.length - 2 - j := by omega
        rw [e1, e2] at h
        intro i h1 h2
        by_cases e : gs.length ≤ i + 1 + j
        · exact hu i e h2
        · obtain rfl : i = gs.length - 2 - j := by omega
          exact h
      exact ⟨_, by omega, j + 1, rfl, .inl (by omega), hu2, ⟨_, atks⟩, asls⟩
  · repeat' (first | (exfalso; first | contradiction | omega) | refine aw0 ?_ | (refine ap2 ?_ ?_ <;> try intro h) | refine aw1 ?_ | (refine abx ?_; intro bb) | (refine abz ?_; intro bz) | (refine ahv ?_; intro v' hv') | (refine aac ?_; intro ac cc) | refine aw2 ?_ | (refine ap4 ?_ ?_ <;> try intro h) | apply True.intro)
    ((with_reducible apply fp_ret); exact res_1 rfl rfl)
    exact HR.out _ _ _ [] (by (exact atks)) ⟨⟨true, rfl, ⟨fun _ i hi => hu i (by omega) hi, fun _ => rfl⟩⟩, rfl⟩
theorem lessT_tri {a b : Tx} (h : ¬ a < b) (k : ¬ a = b) : b < a := by
  rcases List.le_iff_lt_or_eq.1 (List.not_lt.1 h) with h | h
  · exact h
  · exact absurd h.symm k
theorem risT_adj : ∀ {gs : List Tx}, risT gs = true ↔ ∀ i, i + 1 < gs.length → gs.getD i default < gs.getD (i + 1) default
  | [] => by simp [risT]
  | [_] => by simp [risT]
  | a :: b :: l => by
    simp only [risT, Bool.and_eq_true, decide_eq_true_eq, risT_adj (gs := b :: l)]
    constructor
    · rintro ⟨h1, h2⟩ i hi
      cases i with
      | zero => exact h1
      | succ i => exact h2 i (by simpa using hi)
    · exact fun h => ⟨h 0 (by simp), fun i hi => h (i + 1) (by simpa using hi)⟩
theorem compact_len {gs : List Tx} : (Lib.compact gs).length = gs.length ↔ ∀ i, i + 1 < gs.length → ¬ gs.getD (i + 1) default = gs.getD i default := by
  have e : ∀ j, j < gs.length → gs.toArray[j]! = gs.getD j default := fun j hj => by simp [hj]
  have h := List.length_filter_eq_length_iff (p := Lib.keeps gs.toArray) (l := List.range gs.length)
  rw [List.length_range] at h
  unfold Lib.compact Lib.compactUpTo
  rw [List.length_map, h]
  constructor
  · intro h i hi
    have h1 := h (i + 1) (by simpa using hi)
    unfold Lib.keeps at h1
    rw [e _ hi, Nat.add_sub_cancel, e _ (by omega)] at h1
    simpa using h1
  · intro h k hk
    have hk := List.mem_range.1 hk
    unfold Lib.keeps
    cases k with
    | zero => simp
    | succ i =>
      have h1 := h i hk
      rw [e _ hk, Nat.add_sub_cancel, e _ (by omega)]
      simpa using h1
theorem risT_up {gs : List Tx} : risT gs = true ↔ UpT gs ∧ (Lib.compact gs).length = gs.length := by
  rw [risT_adj, compact_len]
  constructor
  · exact fun h => ⟨fun i hi h' => List.lt_asymm (h i hi) h', fun i hi e => by have h1 := h i hi; rw [e] at h1; exact List.lt_irrefl _ h1⟩
  · exact fun ⟨h, k⟩ i hi => lessT_tri (h i hi) (k i hi)
set_option maxRecDepth 10000 in
set_option maxHeartbeats 2000000 in
theorem rising_any (r : Hp) (v : Value) (gs : List Tx) (hv : Els r 1 encTx v gs) (hn : gs.length ≤ 9000000) : Tri Tryd.prog r 20 [v] [] fun w H => w = .bool (risT gs) ∧ H = [] := by
  refine Tri.free2 fun R HR => ?_
  have hl := maxI hv.2.2.1
  have his := isSorted_any r v gs hv
  have hcl := cloneT_any r v gs hv (encTx_one gs) (by omega)
  have hcp := fun a c => compactT_tri r a c gs (by omega)
  have hup := @risT_up gs
  obtain ⟨m, hm⟩ : ∃ m, (Lib.compact gs).length = m := ⟨_, rfl⟩
  have hml : m ≤ gs.length := by
    rw [← hm]
    unfold Lib.compact Lib.compactUpTo
    rw [List.length_map]
    refine Nat.le_trans (List.length_filter_le _ _) ?_
    rw [List.length_range]
    exact Nat.le_refl _
  obtain ⟨Z, hZ⟩ : ∃ Z, Lib.compact gs = Z := ⟨_, rfl⟩
  rw [hm] at hup hcp
  rw [hZ] at hcp
  clear hm hZ
  obtain ⟨rb, hrb⟩ : ∃ b, risT gs = b := ⟨_, rfl⟩
  rw [hrb] at hup HR
  clear hrb
  refine fn_of_sw Tryd.func20 rfl _ rfl ?_; refine aen Tryd.ntmps20 ?_
  repeat' (first | (refine acl Tryd.func30 ?_; refine acr (his) ?_; rintro v' H' ⟨⟨b, rfl, hb⟩, rfl⟩; all_goals refine apl ?_) | (refine acl Tryd.func32 ?_; refine acr (hcl) ?_; rintro v' H' ⟨a1, c1, rfl, rfl⟩; all_goals refine apl ?_) | (refine acl Tryd.func31 ?_; refine acr (hcp _ _) ?_; rintro v' H' ⟨rfl, rfl⟩; all_goals refine apl ?_) | (exfalso; first | contradiction | omega) | refine aw0 ?_ | (refine ap2 ?_ ?_ <;> try intro h) | refine aw1 ?_ | (refine abx ?_; intro bb) | (refine abz ?_; intro bz) | (refine ahv ?_; intro v' hv') | (refine aac ?_; intro ac cc) | refine aw2 ?_ | (refine ap4 ?_ ?_ <;> try intro h) | apply True.intro)
  · ((with_reducible apply fp_ret); exact res_1 rfl rfl)
    exact HR.out _ _ _ [] Takes.all ⟨by congr 1; rw [Bool.eq_iff_iff, decide_eq_true_eq, hup]; exact ⟨fun e => ⟨hb.1 h, by omega⟩, fun e => (by have := e.2; omega)⟩, rfl⟩
  · ((with_reducible apply fp_ret); exact res_1 rfl rfl)
    exact HR.out _ _ _ [] Takes.all ⟨by
      have e : rb = false := by
        cases rb with
        | false => rfl
        | true => rw [hb.2 (hup.1 rfl).1] at h; cases h
      rw [e], rfl⟩
end Go.Proofs.YtgodcegaffgfjaaDoor
