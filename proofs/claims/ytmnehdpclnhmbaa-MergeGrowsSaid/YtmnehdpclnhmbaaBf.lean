
/- slices.Clone of changes, files, numbers; slices.CompactFunc of changes; batch.Right: their contracts. -/
import Derived.Test.YtmnehdpclnhmbaaBe
import Derived.Test.YtmnehdpclnhmbaaKc
namespace Go.Proofs.Ytmnehdpclnhmbaa
open Go.RowKit Sx

theorem encCh_oneR {r : Hp} : ∀ {Z : List ChV}, (∀ x ∈ Z, U8S r x.val x.data) → (Z.flatMap encCh).all one? = true
  | [], _ => rfl
  | z :: Z, h => by
    rw [List.flatMap_cons, List.all_append, encCh_oneR fun x hx => h x (List.mem_cons_of_mem _ hx), Bool.and_true]
    have h1 := (h z (by simp)).one
    simp only [encCh, List.all_cons, List.all_nil, h1, Bool.and_true]
    rfl
theorem encF_oneR {r : Hp} : ∀ {Z : List FileV}, (∀ x ∈ Z, U8S r x.val x.data) → (Z.flatMap encF).all one? = true
  | [], _ => rfl
  | z :: Z, h => by
    rw [List.flatMap_cons, List.all_append, encF_oneR fun x hx => h x (List.mem_cons_of_mem _ hx), Bool.and_true]
    have h1 := (h z (by simp)).one
    simp only [encF, List.all_cons, List.all_nil, h1, Bool.and_true]
    rfl
theorem getDm {α : Type} [Inhabited α] {l : List α} {k : Nat} (h : k < l.length) : l.getD k default ∈ l := by
  rw [List.getD_eq_getElem?_getD, List.getElem?_eq_getElem h]
  exact List.getElem_mem h
def encJ (i : Int) : List Value := [.int .i64 i]
theorem encJ_one (xs : List Int) : (xs.flatMap encJ).all one? = true := by simp [encJ, List.all_eq_true, one?]
set_option maxRecDepth 10000 in
set_option maxHeartbeats 1000000 in
theorem cloneCh_any (r : Hp) (v : Value) (xs : List ChV) (hv : Els r 3 encCh v xs) (hone : (xs.flatMap encCh).all one? = true) (hl : xs.length ≤ 1000000) : Tri Try.prog r 32 [v] [] fun w H => ∃ a c, w = .slice a xs.length c ∧ H = [RowC 44 3 w xs.length (xs.flatMap encCh)] := by
  have hn := fun (a : Option Addr) (n c : Nat) (w : World) => Lib.run_eql_slice_nil (P := Try.prog) w 25 _ a n c 0 0 Try.underlying25
  refine Tri.free2 fun R HR => ?_
  obtain ⟨a, c, rfl⟩ := hv.form
  cases a with
  | none =>
    have hx : xs = [] := by
      rcases hv.2.2.2 with ⟨_, h0⟩ | ⟨b, off, cap, c, E, fz, h, _⟩
      · exact List.length_eq_zero_iff.1 h0
      · cases h
    subst hx
    refine fn_of_sw Try.func32 rfl _ rfl ?_; refine aen Try.ntmps32 ?_
    refine sw_put (A := RowC 44 3 (.slice none 0 0) 0 []) (RowC.nil _ _) ?_
    repeat' (first | ((with_reducible refine swo_kit ?_ ?_); rfl; intro w ds K' hK; gi_big_op; (with_reducible refine hK _ ?_); clear hK K' ds w) | refine aw0 ?_ | (refine ap2 ?_ ?_ <;> try intro h) | refine aw1 ?_ | (refine abx ?_; intro bb) | (refine abz ?_; intro bz) | (refine ahv ?_; intro v' hv') | (refine aac ?_; intro ac cc) | refine aw2 ?_ | (refine ap4 ?_ ?_ <;> try intro h) | apply True.intro)
    ((with_reducible apply fp_ret); exact res_1 rfl rfl)
    exact HR.out _ _ _ [RowC 44 3 (.slice none 0 0) 0 []] (by (exact atks)) ⟨_, _, rfl, rfl⟩
  | some ad =>
    refine fn_of_sw Try.func32 rfl _ rfl ?_; refine aen Try.ntmps32 ?_
    repeat' (first | ((with_reducible apply kx_bs0R); exact ty_el; exact ty_inf; intro bz; (refine apk ?_)) | ((with_reducible refine swo_isApp ?_); (with_reducible apply kx_appS (news := xs.flatMap encCh)); exact ty_el; exact ty_inf; rfl; rfl; rfl; rfl; exact hv.2; (exact atk); exact hone; (unfold maxLen; omega); (omega); intro a' c'; refine apm ?_) | ((with_reducible refine swo_kit ?_ ?_); rfl; intro w ds K' hK; gi_big_op; (with_reducible refine hK _ ?_); clear hK K' ds w) | refine aw0 ?_ | (refine ap2 ?_ ?_ <;> try intro h) | refine aw1 ?_ | (refine abx ?_; intro bb) | (refine abz ?_; intro bz) | (refine ahv ?_; intro v' hv') | (refine aac ?_; intro ac cc) | refine aw2 ?_ | (refine ap4 ?_ ?_ <;> try intro h) | apply True.intro)
    simp only [Nat.zero_add]
    ((with_reducible apply fp_ret); exact res_1 rfl rfl)
    exact HR.out _ _ _ [RowC 44 3 _ _ _] (by (exact atks)) ⟨a', c', rfl, rfl⟩
set_option maxRecDepth 10000 in
set_option maxHeartbeats 1000000 in
theorem cloneFi_any (r : Hp) (v : Value) (xs : List FileV) (hv : Els r 2 encF v xs) (hone : (xs.flatMap encF).all one? = true) (hl : xs.length ≤ 1000000) : Tri Try.prog r 13 [v] [] fun w H => ∃ a c, w = .slice a xs.length c ∧ H = [RowC 42 2 w xs.length (xs.flatMap encF)] := by
  have hn := fun (a : Option Addr) (n c : Nat) (w : World) => Lib.run_eql_slice_nil (P := Try.prog) w 27 _ a n c 0 0 Try.underlying27
  refine Tri.free2 fun R HR => ?_
  obtain ⟨a, c, rfl⟩ := hv.form
  cases a with
  | none =>
    have hx : xs = [] := by
      rcases hv.2.2.2 with ⟨_, h0⟩ | ⟨b, off, cap, c, E, fz, h, _⟩
      · exact List.length_eq_zero_iff.1 h0
      · cases h
    subst hx
    refine fn_of_sw Try.func13 rfl _ rfl ?_; refine aen Try.ntmps13 ?_
    refine sw_put (A := RowC 42 2 (.slice none 0 0) 0 []) (RowC.nil _ _) ?_
    repeat' (first | ((with_reducible refine swo_kit ?_ ?_); rfl; intro w ds K' hK; gi_big_op; (with_reducible refine hK _ ?_); clear hK K' ds w) | refine aw0 ?_ | (refine ap2 ?_ ?_ <;> try intro h) | refine aw1 ?_ | (refine abx ?_; intro bb) | (refine abz ?_; intro bz) | (refine ahv ?_; intro v' hv') | (refine aac ?_; intro ac cc) | refine aw2 ?_ | (refine ap4 ?_ ?_ <;> try intro h) | apply True.intro)
    ((with_reducible apply fp_ret); exact res_1 rfl rfl)
    exact HR.out _ _ _ [RowC 42 2 (.slice none 0 0) 0 []] (by (exact atks)) ⟨_, _, rfl, rfl⟩
  | some ad =>
    refine fn_of_sw Try.func13 rfl _ rfl ?_; refine aen Try.ntmps13 ?_
    repeat' (first | ((with_reducible apply kx_bs0R); exact ty_el; exact ty_inf; intro bz; (refine apk ?_)) | ((with_reducible refine swo_isApp ?_); (with_reducible apply kx_appS (news := xs.flatMap encF)); exact ty_el; exact ty_inf; rfl; rfl; rfl; rfl; exact hv.2; (exact atk); exact hone; (unfold maxLen; omega); (omega); intro a' c'; refine apm ?_) | ((with_reducible refine swo_kit ?_ ?_); rfl; intro w ds K' hK; gi_big_op; (with_reducible refine hK _ ?_); clear hK K' ds w) | refine aw0 ?_ | (refine ap2 ?_ ?_ <;> try intro h) | refine aw1 ?_ | (refine abx ?_; intro bb) | (refine abz ?_; intro bz) | (refine ahv ?_; intro v' hv') | (refine aac ?_; intro ac cc) | refine aw2 ?_ | (refine ap4 ?_ ?_ <;> try intro h) | apply True.intro)
    simp only [Nat.zero_add]
    ((with_reducible apply fp_ret); exact res_1 rfl rfl)
    exact HR.out _ _ _ [RowC 42 2 _ _ _] (by (exact atks)) ⟨a', c', rfl, rfl⟩
set_option maxRecDepth 10000 in
set_option maxHeartbeats 1000000 in
theorem cloneIn_any (r : Hp) (v : Value) (xs : List Int) (hv : Els r 1 encJ v xs) (hone : (xs.flatMap encJ).all one? = true) (hl : xs.length ≤ 1000000) : Tri Try.prog r 44 [v] [] fun w H => ∃ a c, w = .slice a xs.length c ∧ H = [RowC 3 1 w xs.length (xs.flatMap encJ)] := by
  have hn := fun (a : Option Addr) (n c : Nat) (w : World) => Lib.run_eql_slice_nil (P := Try.prog) w 34 _ a n c 0 0 Try.underlying34
  refine Tri.free2 fun R HR => ?_
  obtain ⟨a, c, rfl⟩ := hv.form
  cases a with
  | none =>
    have hx : xs = [] := by
      rcases hv.2.2.2 with ⟨_, h0⟩ | ⟨b, off, cap, c, E, fz, h, _⟩
      · exact List.length_eq_zero_iff.1 h0
      · cases h
    subst hx
    refine fn_of_sw Try.func44 rfl _ rfl ?_; refine aen Try.ntmps44 ?_
    refine sw_put (A := RowC 3 1 (.slice none 0 0) 0 []) (RowC.nil _ _) ?_
    repeat' (first | ((with_reducible refine swo_kit ?_ ?_); rfl; intro w ds K' hK; gi_big_op; (with_reducible refine hK _ ?_); clear hK K' ds w) | refine aw0 ?_ | (refine ap2 ?_ ?_ <;> try intro h) | refine aw1 ?_ | (refine abx ?_; intro bb) | (refine abz ?_; intro bz) | (refine ahv ?_; intro v' hv') | (refine aac ?_; intro ac cc) | refine aw2 ?_ | (refine ap4 ?_ ?_ <;> try intro h) | apply True.intro)
    ((with_reducible apply fp_ret); exact res_1 rfl rfl)
    exact HR.out _ _ _ [RowC 3 1 (.slice none 0 0) 0 []] (by (exact atks)) ⟨_, _, rfl, rfl⟩
  | some ad =>
    refine fn_of_sw Try.func44 rfl _ rfl ?_; refine aen Try.ntmps44 ?_
    repeat' (first | ((with_reducible apply kx_bs0R); exact ty_el; exact ty_inf; intro bz; (refine apk ?_)) | ((with_reducible refine swo_isApp ?_); (with_reducible apply kx_appS (news := xs.flatMap encJ)); exact ty_el; exact ty_inf; rfl; rfl; rfl; rfl; exact hv.2; (exact atk); exact hone; (unfold maxLen; omega); (omega); intro a' c'; refine apm ?_) | ((with_reducible refine swo_kit ?_ ?_); rfl; intro w ds K' hK; gi_big_op; (with_reducible refine hK _ ?_); clear hK K' ds w) | refine aw0 ?_ | (refine ap2 ?_ ?_ <;> try intro h) | refine aw1 ?_ | (refine abx ?_; intro bb) | (refine abz ?_; intro bz) | (refine ahv ?_; intro v' hv') | (refine aac ?_; intro ac cc) | refine aw2 ?_ | (refine ap4 ?_ ?_ <;> try intro h) | apply True.intro)
    simp only [Nat.zero_add]
    ((with_reducible apply fp_ret); exact res_1 rfl rfl)
    exact HR.out _ _ _ [RowC 3 1 _ _ _] (by (exact atks)) ⟨a', c', rfl, rfl⟩
theorem flat_set {α : Type} {enc : α → List Value} {sz : Nat} (he : ∀ x, (enc x).length = sz) : ∀ (Z : List α) (i : Nat) (z : α), i < Z.length → (Z.flatMap enc).take (i * sz) ++ (enc z ++ (Z.flatMap enc).drop (i * sz + sz)) = (Z.set i z).flatMap enc
  | y :: Z, 0, z, _ => by
    rw [Nat.zero_mul, Nat.zero_add, List.take_zero, List.nil_append, List.flatMap_cons, List.set_cons_zero, List.flatMap_cons, ← he y, List.drop_left]
  | y :: Z, i + 1, z, h => by
    have ih := flat_set he Z i z (by simpa using h)
    rw [List.set_cons_succ, List.flatMap_cons, List.flatMap_cons, ← ih, Nat.add_mul, Nat.one_mul, show i * sz + sz = (enc y).length + i * sz by rw [he]; omega, List.take_length_add_append, show (enc y).length + i * sz + sz = (enc y).length + (i * sz + sz) by omega, List.drop_length_add_append, List.append_assoc, he, Nat.add_comm sz]
/-- No text is said twice in a row. -/
def onceB : List Pa → Bool
  | [] => true
  | [_] => true
  | a :: b :: l => !decide (a = b) && onceB (b :: l)
theorem onceB_iff : ∀ {xs : List ChV}, onceB (xs.map (·.path)) = true ↔ ∀ i, i + 1 < xs.length → (xs.getD (i + 1) default).path ≠ (xs.getD i default).path
  | [] => by simp [onceB]
  | [_] => by simp [onceB]
  | x :: y :: xs => by
    have ih := onceB_iff (xs := y :: xs)
    rw [show onceB ((x :: y :: xs).map (·.path)) = (!decide (x.path = y.path) && onceB ((y :: xs).map (·.path))) from rfl, Bool.and_eq_true, Bool.not_eq_true', decide_eq_false_iff_not, ih]
    constructor
    · rintro ⟨h1, h2⟩ i hi
      cases i with
      | zero => exact fun e => h1 e.symm
      | succ i => exact h2 i (by simpa using hi)
    · intro h
      exact ⟨fun e => h 0 (by simp) e.symm, fun i hi => h (i + 1) (by simpa using hi)⟩
set_option maxRecDepth 10000 in
set_option maxHeartbeats 4000000 in
theorem compact_any (r : Hp) (a : Option Addr) (c : Nat) (xs : List ChV) (hl : xs.length ≤ 1000000) (hone : ∀ x ∈ xs, one? x.val = true) : Tri Try.prog r 31 [.slice a xs.length c, .func (.func 33) #[] #[]] [RowC 44 3 (.slice a xs.length c) xs.length (xs.flatMap encCh)] fun w H => ∃ a' m c', w = .slice a' m c' ∧ (m = xs.length ↔ onceB (xs.map (·.path)) = true) ∧ H = [] := by
  refine Tri.free2 fun R HR => ?_
  refine fn_of_sw Try.func31 rfl _ rfl ?_; refine aen Try.ntmps31 ?_
  repeat' (first | refine aw0m ?_ | (refine ap2 ?_ ?_ <;> try intro h) | refine aw1m ?_ | (refine abx ?_; intro bb) | (refine abz ?_; intro bz) | (refine ahv ?_; intro v' hv') | (refine aac ?_; intro ac cc) | refine aw2 ?_ | (refine ap4 ?_ ?_ <;> try intro h) | apply True.intro)
  · have ho : onceB (xs.map (·.path)) = true := onceB_iff.2 fun i hi => absurd hi (by omega)
    ((with_reducible apply fp_ret); exact res_1 rfl rfl)
    exact HR.out _ _ _ [] Takes.all ⟨a, _, c, rfl, by rw [ho]; simp, rfl⟩
  · refine sw_loop (fun gm t H' => ∃ k : Nat, gm = xs.length + 1 - k ∧ (1 ≤ k ∧ k ≤ xs.length) ∧ (∀ i, i + 1 < k → (xs.getD (i + 1) default).path ≠ (xs.getD i default).path) ∧ (∃ G, Takes [RowC 44 3 (.slice a xs.length c) xs.length (xs.flatMap encCh)] H' G) ∧ Sls t 66 [(0, .slice a xs.length c), (1, .func (.func 33) #[] #[]), (5, .int .i64 k)]) _ ⟨1, rfl, ⟨Nat.le_refl _, by omega⟩, fun i h => absurd h (by omega), ⟨_, atks⟩, asls⟩ ?_
    rintro gm t H' ⟨k, rfl, hk, hs, ⟨G, hp⟩, hs'⟩
    revert t; refine sls_all ?_; iterate 63 intro uu'
    refine sw_takeG hp ?_; clear hp
    by_cases hlt : k < xs.length
    · repeat' (first | ((with_reducible apply sw_lendQ (c := .region 6 _ _) (A := RowC 44 3 (.slice a xs.length c) xs.length (xs.flatMap encCh))); (with_reducible (exact atk)); intro r1 g1 hr1 hg1 hA1; have hE1 : Els r1 3 encCh (.slice a xs.length c) xs := ⟨fun _ => rfl, hA1.sl hg1⟩) | ((with_reducible apply sw_draw (id := 6) 11 [(0, true), (1, true), (2, true), (3, true), (4, true), (5, true), (6, true), (7, true), (8, true), (9, true), (10, false)] [] []); kernel_rfl; (exact atks); kernel_rfl; intro r' hl') | (refine acl Try.func33 ?_; refine acr (bsame_any _ _ _) ?_; rintro v' H' ⟨rfl, rfl⟩; all_goals refine apl ?_) | (exfalso; first | contradiction | omega) | refine aw0 ?_ | (refine ap2 ?_ ?_ <;> try intro h) | refine aw1 ?_ | (refine abx ?_; intro bb) | (refine abz ?_; intro bz) | (refine ahv ?_; intro v' hv') | (refine aac ?_; intro ac cc) | refine aw2 ?_ | (refine ap4 ?_ ?_ <;> try intro h) | apply True.intro)
      · have hdup : (xs.getD k default).path = (xs.getD (k - 1) default).path := by rw [show ((k : Int) - 1).toNat = k - 1 by omega] at h; exact h
        have hno : ¬ onceB (xs.map (·.path)) = true := fun e => onceB_iff.1 e (k - 1) (by omega) (by rw [show k - 1 + 1 = k by omega]; exact hdup)
        (with_reducible apply kx_lendC (A := RowC 44 3 (.slice a xs.length c) xs.length (xs.flatMap encCh))); (with_reducible (exact atk)); intro r1 g1 hr1 hg1 hA1; (with_reducible apply swo_pur);  apply pu_sl; rfl; exact hA1.sl hg1; exact bds_sn rfl; omega; (refine apk ?_)
        simp only [Int.toNat_natCast]
        repeat' (first | refine aw0m ?_ | (refine ap2 ?_ ?_ <;> try intro h) | refine aw1m ?_ | (refine abx ?_; intro bb) | (refine abz ?_; intro bz) | (refine ahv ?_; intro v' hv') | (refine aac ?_; intro ac cc) | refine aw2 ?_ | (refine ap4 ?_ ?_ <;> try intro h) | apply True.intro)
        refine sw_loop (fun gm t H' => ∃ (i q : Nat) (Y : List ChV), gm = xs.length + 1 - q ∧ (1 ≤ i ∧ i < k + q) ∧ (1 ≤ q ∧ q ≤ xs.length - k) ∧ (Y.length = xs.length) ∧ (∀ x ∈ Y, one? x.val = true) ∧ (∃ G, Takes [RowC 44 3 (.slice a xs.length c) xs.length (Y.flatMap encCh)] H' G) ∧ Sls t 66 [(0, .slice a xs.length c), (1, .func (.func 33) #[] #[]), (5, .int .i64 i), (6, cutV (.slice a xs.length c) k xs.length 3), (7, .int .i64 q)]) _ ⟨k, 1, xs, rfl, ⟨by omega, by omega⟩, ⟨Nat.le_refl _, by omega⟩, rfl, hone, ⟨_, atks⟩, asls⟩ ?_
        rintro gm t H' ⟨i, q, Y, rfl, hi, hq, hY, hO, ⟨G, hp⟩, hs'⟩
        revert t; refine sls_all ?_; iterate 61 intro uu'
        refine sw_takeG hp ?_; clear hp
        by_cases hql : q < xs.length - k
        · repeat' (first | (exfalso; first | contradiction | omega) | refine aw0 ?_ | (refine ap2 ?_ ?_ <;> try intro h) | refine aw1 ?_ | (refine abx ?_; intro bb) | (refine abz ?_; intro bz) | (refine ahv ?_; intro v' hv') | (refine aac ?_; intro ac cc) | refine aw2 ?_ | (refine ap4 ?_ ?_ <;> try intro h) | apply True.intro)
          (with_reducible apply sw_lendQ (c := .region 11 _ _) (A := RowC 44 3 (.slice a xs.length c) xs.length (Y.flatMap encCh)))
          (with_reducible (exact atk))
          intro r1 g1 hr1 hg1 hA1
          have hE2 : Els r1 3 encCh (cutV (.slice a xs.length c) k xs.length 3) ((Y.drop k).take (xs.length - k)) := (show Els r1 3 encCh (.slice a xs.length c) Y from ⟨fun _ => rfl, by rw [hY]; exact hA1.sl hg1⟩).cut (i := k) (j := xs.length) (by omega) (by omega)
          have hL2 : ((Y.drop k).take (xs.length - k)).length = xs.length - k := (by rw [List.length_take, List.length_drop]; omega)
          repeat' (first | ((with_reducible apply sw_draw (id := 11) 12 [(0, true), (1, true), (2, true), (3, true), (4, true), (5, true), (6, true), (7, true), (8, true), (9, true), (10, false), (11, true)] [] []); kernel_rfl; (exact atks); kernel_rfl; intro r' hl') | (refine acl Try.func33 ?_; refine acr (bsame_any _ _ _) ?_; rintro v' H' ⟨rfl, rfl⟩; all_goals refine apl ?_) | (exfalso; first | contradiction | omega) | refine aw0 ?_ | (refine ap2 ?_ ?_ <;> try intro h) | refine aw1 ?_ | (refine abx ?_; intro bb) | (refine abz ?_; intro bz) | (refine ahv ?_; intro v' hv') | (refine aac ?_; intro ac cc) | refine aw2 ?_ | (refine ap4 ?_ ?_ <;> try intro h) | apply True.intro)
          · (with_reducible apply kx_lendC (A := RowC 44 3 (.slice a xs.length c) xs.length (Y.flatMap encCh))); (with_reducible (exact atk)); intro r1 g1 hr1 hg1 hA1; have hE2 : Els r1 3 encCh (cutV (.slice a xs.length c) k xs.length 3) ((Y.drop k).take (xs.length - k)) := (show Els r1 3 encCh (.slice a xs.length c) Y from ⟨fun _ => rfl, by rw [hY]; exact hA1.sl hg1⟩).cut (i := k) (j := xs.length) (by omega) (by omega)
            (with_reducible apply swo_pur); apply pu_ix; rfl; exact hE2.sl; rfl; omega; (refine apk ?_)
            repeat' (first | refine aw0m ?_ | (refine ap2 ?_ ?_ <;> try intro h) | refine aw1m ?_ | (refine abx ?_; intro bb) | (refine abz ?_; intro bz) | (refine ahv ?_; intro v' hv') | (refine aac ?_; intro ac cc) | refine aw2 ?_ | (refine ap4 ?_ ?_ <;> try intro h) | apply True.intro)
            (with_reducible apply kx_lendC (A := RowC 44 3 (.slice a xs.length c) xs.length (Y.flatMap encCh))); (with_reducible (exact atk)); intro r1 g1 hr1 hg1 hA1; have hE2 : Els r1 3 encCh (cutV (.slice a xs.length c) k xs.length 3) ((Y.drop k).take (xs.length - k)) := (show Els r1 3 encCh (.slice a xs.length c) Y from ⟨fun _ => rfl, by rw [hY]; exact hA1.sl hg1⟩).cut (i := k) (j := xs.length) (by omega) (by omega)
            (with_reducible apply swo_pur); apply pu_ldE (sz := 3); rfl; exact hE2; omega; infer_instance; (refine apk ?_)
            obtain ⟨y, hy⟩ : ∃ y, ((Y.drop k).take (xs.length - k)).getD q default = y := ⟨_, rfl⟩
            have hyY : y ∈ Y := by
              have h1 : y ∈ (Y.drop k).take (xs.length - k) := hy ▸ getDm (by omega)
              exact List.mem_of_mem_drop (List.mem_of_mem_take h1)
            have honey : (encCh y).all one? = true := by have h1 := hO y hyY; simp only [encCh, List.all_cons, List.all_nil, h1, Bool.and_true]; rfl
            have hfl : (Y.flatMap encCh).length = Y.length * 3 := flat_len (enc := encCh) (sz := 3) (fun _ => rfl) Y
            simp only [Int.toNat_natCast]
            rw [hy]
            repeat' (first | ((with_reducible apply kx_stCN (vs := encCh y)); exact ty_size; rfl; rfl; rfl; (exact atk); exact honey; rfl; (omega); (refine apk ?_)) | (exfalso; first | contradiction | omega) | refine aw0 ?_ | (refine ap2 ?_ ?_ <;> try intro h) | refine aw1 ?_ | (refine abx ?_; intro bb) | (refine abz ?_; intro bz) | (refine ahv ?_; intro v' hv') | (refine aac ?_; intro ac cc) | refine aw2 ?_ | (refine ap4 ?_ ?_ <;> try intro h) | apply True.intro)
            simp only [Int.toNat_natCast]
            rw [flat_set (enc := encCh) (fun _ => rfl) Y i y (by omega)]
            exact ⟨_, by omega, i + 1, q + 1, Y.set i y, rfl, ⟨by omega, by omega⟩, ⟨by omega, by omega⟩, by rw [List.length_set]; exact hY, fun x hx => (by
              rcases List.mem_or_eq_of_mem_set hx with hx | rfl
              · exact hO x hx
              · exact hO x hyY), ⟨_, atks⟩, asls⟩
          · exact ⟨_, by omega, i, q + 1, Y, rfl, ⟨by omega, by omega⟩, ⟨by omega, by omega⟩, hY, hO, ⟨_, atks⟩, asls⟩
        · repeat' (first | (exfalso; first | contradiction | omega) | refine aw0 ?_ | (refine ap2 ?_ ?_ <;> try intro h) | refine aw1 ?_ | (refine abx ?_; intro bb) | (refine abz ?_; intro bz) | (refine ahv ?_; intro v' hv') | (refine aac ?_; intro ac cc) | refine aw2 ?_ | (refine ap4 ?_ ?_ <;> try intro h) | apply True.intro)
          (with_reducible apply kx_lendC (A := RowC 44 3 (.slice a xs.length c) xs.length (Y.flatMap encCh))); (with_reducible (exact atk)); intro r1 g1 hr1 hg1 hA1; have hS1 : Sl r1 3 (.slice a xs.length c) xs.length (Y.flatMap encCh) := hA1.sl hg1; (with_reducible apply swo_pur); apply pu_sl; rfl; exact hS1; exact bds_sn rfl; omega; (refine apk ?_)
          simp only [Int.toNat_natCast]
          repeat' (first | refine aw0m ?_ | (refine ap2 ?_ ?_ <;> try intro h) | refine aw1m ?_ | (refine abx ?_; intro bb) | (refine abz ?_; intro bz) | (refine ahv ?_; intro v' hv') | (refine aac ?_; intro ac cc) | refine aw2 ?_ | (refine ap4 ?_ ?_ <;> try intro h) | apply True.intro)
          (with_reducible apply kx_clr (i := i) (sz := 3)); exact ty_zero; rfl; rfl; rfl; omega; (with_reducible (exact atk)); intro ys; (refine apk ?_)
          repeat' (first | refine aw0m ?_ | (refine ap2 ?_ ?_ <;> try intro h) | refine aw1m ?_ | (refine abx ?_; intro bb) | (refine abz ?_; intro bz) | (refine ahv ?_; intro v' hv') | (refine aac ?_; intro ac cc) | refine aw2 ?_ | (refine ap4 ?_ ?_ <;> try intro h) | apply True.intro)
          (with_reducible apply kx_lendC (A := RowC 44 3 (.slice a xs.length c) xs.length ys)); (with_reducible (exact atk)); intro r1 g1 hr1 hg1 hA1; have hS1 : Sl r1 3 (.slice a xs.length c) xs.length ys := hA1.sl hg1; (with_reducible apply swo_pur); apply pu_sl; rfl; exact hS1; exact bds_ns rfl; omega; (refine apk ?_)
          repeat' (first | refine aw0m ?_ | (refine ap2 ?_ ?_ <;> try intro h) | refine aw1m ?_ | (refine abx ?_; intro bb) | (refine abz ?_; intro bz) | (refine ahv ?_; intro v' hv') | (refine aac ?_; intro ac cc) | refine aw2 ?_ | (refine ap4 ?_ ?_ <;> try intro h) | apply True.intro)
          have ho : onceB (xs.map (·.path)) = false := by rw [← Bool.not_eq_true]; exact hno
          ((with_reducible apply fp_ret); exact res_1 rfl rfl)
          exact HR.out _ _ _ [] Takes.all ⟨_, _, _, rfl, by rw [ho]; simp; omega, rfl⟩
      · exact ⟨_, by omega, k + 1, rfl, ⟨by omega, by omega⟩, fun i h1 => (by
          by_cases e : i + 1 = k
          · rw [show ((k : Int) - 1).toNat = i by omega] at h
            rw [e]
            exact h
          · exact hs i (by omega)), ⟨_, atks⟩, asls⟩
    · repeat' (first | (exfalso; first | contradiction | omega) | refine aw0 ?_ | (refine ap2 ?_ ?_ <;> try intro h) | refine aw1 ?_ | (refine abx ?_; intro bb) | (refine abz ?_; intro bz) | (refine ahv ?_; intro v' hv') | (refine aac ?_; intro ac cc) | refine aw2 ?_ | (refine ap4 ?_ ?_ <;> try intro h) | apply True.intro)
      have ho : onceB (xs.map (·.path)) = true := onceB_iff.2 fun i hi => hs i (by omega)
      ((with_reducible apply fp_ret); exact res_1 rfl rfl)
      exact HR.out _ _ _ [] Takes.all ⟨a, _, c, rfl, by rw [ho]; simp, rfl⟩
theorem rises_two : ∀ l : List Pa, risesP l = (onceB l && sortB l)
  | [] => rfl
  | [_] => rfl
  | a :: b :: l => by
    rw [show risesP (a :: b :: l) = (decide (a < b) && risesP (b :: l)) from rfl, show onceB (a :: b :: l) = (!decide (a = b) && onceB (b :: l)) from rfl, show sortB (a :: b :: l) = (!decide (b < a) && sortB (b :: l)) from rfl, rises_two (b :: l)]
    have e : decide (a < b) = (!decide (a = b) && !decide (b < a)) := by
      rw [Bool.eq_iff_iff]
      simp only [Bool.and_eq_true, Bool.not_eq_true', decide_eq_false_iff_not, decide_eq_true_eq]
      exact ⟨fun h => ⟨fun e => pa_irr _ (e ▸ h), fun h2 => pa_irr _ (pa_tr h h2)⟩, fun h => pa_tri h.2 fun e => h.1 e.symm⟩
    rw [e]
    cases decide (a = b) <;> cases decide (b < a) <;> cases onceB (b :: l) <;> cases sortB (b :: l) <;> rfl
set_option maxRecDepth 10000 in
set_option maxHeartbeats 2000000 in
theorem bright_any (r : Hp) (v : Value) (xs : List ChV) (hv : Chs r v xs) (hn : xs.length ≤ 1000000) (hl : ∀ x ∈ xs, x.path.length ≤ 1000000) : Tri Try.prog r 12 [v] [] fun w H => w = .bool (batchOk (xs.map chK)) ∧ H = [] := by
  refine Tri.free2 fun R HR => ?_
  have hcl := cloneCh_any r v xs hv.1 (encCh_oneR hv.2) hn
  have hcm := fun a c => compact_any r a c xs hn fun x hx => (hv.2 x hx).one
  have hso := sorted_any r v xs hv.1
  have hal := ball_any r v xs hv hl
  have hb : batchOk (xs.map chK) = (decide (xs.length ≤ 400) && onceB (xs.map (·.path)) && sortB (xs.map (·.path)) && !(xs.any fun x => bigK (chK x))) := by
    unfold batchOk
    rw [List.length_map, List.any_map, List.map_map, show ((fun x : ChK => x.1) ∘ chK) = fun x : ChV => x.path from rfl, rises_two]
    show (_ && !(xs.any fun x => bigK (chK x)) && _) = _
    generalize xs.any _ = q
    cases decide (xs.length ≤ 400) <;> cases q <;> cases onceB (xs.map (·.path)) <;> cases sortB (xs.map (·.path)) <;> rfl
  rw [hb] at HR
  clear hb
  obtain ⟨hve, hvb⟩ := hv
  generalize (xs.any fun x => bigK (chK x)) = q4 at hal HR
  generalize sortB (xs.map (·.path)) = q3 at hso HR
  generalize onceB (xs.map (·.path)) = q2 at hcm HR
  refine fn_of_sw Try.func12 rfl _ rfl ?_; refine aen Try.ntmps12 ?_
  repeat' (first | (refine acl Try.func32 ?_; refine acr (hcl) ?_; rintro v' H' ⟨a1, c1, rfl, rfl⟩; all_goals refine apl ?_) | (refine acl Try.func31 ?_; refine acr (hcm _ _) ?_; rintro v' H' ⟨a2, m, c2, rfl, hm, rfl⟩; all_goals refine apl ?_) | (refine acl Try.func34 ?_; refine acr (hso) ?_; rintro v' H' ⟨rfl, rfl⟩; all_goals refine apl ?_) | (refine acl Try.func36 ?_; refine acr (hal) ?_; rintro v' H' ⟨rfl, rfl⟩; all_goals refine apl ?_) | (exfalso; first | contradiction | omega) | refine aw0 ?_ | (refine ap2 ?_ ?_ <;> try intro h) | refine aw1 ?_ | (refine abx ?_; intro bb) | (refine abz ?_; intro bz) | (refine ahv ?_; intro v' hv') | (refine aac ?_; intro ac cc) | refine aw2 ?_ | (refine ap4 ?_ ?_ <;> try intro h) | apply True.intro)
  · have h1 : xs.length ≤ 400 := by omega
    have h2 : q2 = true := hm.1 (by omega)
    subst h2
    subst h
    ((with_reducible apply fp_ret); exact res_1 rfl rfl)
    exact HR.out _ _ _ [] Takes.all ⟨by rw [decide_eq_true h1]; rfl, rfl⟩
  · subst h
    ((with_reducible apply fp_ret); exact res_1 rfl rfl)
    exact HR.out _ _ _ [] Takes.all ⟨by rw [Bool.and_false, Bool.false_and], rfl⟩
  · have h2 : q2 = false := by rw [← Bool.not_eq_true]; exact fun e => by have := hm.2 e; omega
    subst h2
    ((with_reducible apply fp_ret); exact res_1 rfl rfl)
    exact HR.out _ _ _ [] Takes.all ⟨by rw [Bool.and_false, Bool.false_and, Bool.false_and], rfl⟩
  · have h1 : ¬ xs.length ≤ 400 := by omega
    ((with_reducible apply fp_ret); exact res_1 rfl rfl)
    exact HR.out _ _ _ [] Takes.all ⟨by rw [decide_eq_false h1, Bool.false_and, Bool.false_and, Bool.false_and], rfl⟩
end Go.Proofs.Ytmnehdpclnhmbaa
