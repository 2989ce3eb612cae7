/- Append of so many zero elements to no slice; slices.Grow, Concat at bytes: their contracts. -/
import Derived.Test.YtkbajhiahpkgiaaPk
import Derived.Test.YtkbajhiahpkgiaaPf
namespace Go.Proofs.Ytkbajhiahpkgiaa
open Go.RowKit
namespace Sx
section
variable {P : Program} {l : Option Nat} {r : Hp} {Q : Exit → St} {K : St} {t : List Value} {H : List Ch} {d : Option Tmp} {ty : TypeId} {pos : String} {af : Array Edge} {gd : Option (Nat × Bool)} {v : Value}
theorem run_append_int {w : World} (T u ty e : TypeId) (i : TypeInfo) (z : Value) (ht : P.underlying T = some (.slice e)) (hu : P.underlying u = some (.int .i64)) (hi : P.info? e = some i) (hz : i.zero = some z) (hs : 0 < i.size)
    (n : Nat) (h0 : 0 < n) (h63 : (n : Int) ≤ 9223372036854775807) (h48 : n * i.bytes ≤ 140737488355328) :
    (Builtin.append_ #[T, u] ty #[.slice none 0 0, .int .i64 n]).run P w =
      .ok (.slice (some ⟨w.heap.size, 0, none⟩) n (grownCap w n 0 e)) (w.drew.alloc (.cells (Builtin.zeroCells z.cells n ++ Builtin.zeroCells z.cells (grownCap w n 0 e - n)) e)) := by
  have hn : n ≠ 0 := by omega
  have h63' : ¬ (9223372036854775807 < (n : Int)) := by omega
  have h48' : ¬ (281474976710656 < Builtin.nextslicecap n 0 * i.bytes) := by rw [nextslicecap_zero h0]; omega
  have h48i : ¬ (281474976710656 < (n : Int) * (i.bytes : Int)) := by
    have : (n : Int) * (i.bytes : Int) = ((n * i.bytes : Nat) : Int) := by simp
    omega
  have hns : n * i.size ≠ 0 := Nat.mul_ne_zero hn (by omega)
  have hw : IntKind.i64.wrap (n : Int) = n := by simp [IntKind.wrap, IntKind.bits, IntKind.signed]; omega
  have ha : ∀ w, (asIntOf (Value.int .i64 (n : Int))).run P w = .ok (.i64, (n : Int)) w := fun w => by simp [asIntOf, Sem.run_pure]
  have k1 : ¬ (n : Int) < 0 := by omega
  have k2 : ¬ (n : Int) ≤ 0 := by omega
  have k3 : ¬ 9223372036854775807 < max (n : Int) 0 := by omega
  have k4 : ¬ (n = 0 ∨ i.size = 0) := by omega
  have k5 : ¬ i.size = 0 := by omega
  simp [Builtin.append_, ha, k1, Result.andThen, run_underlying ht, run_underlying hu, sizeOf, typeInfo, zeroValue, hi, hz, asInt, hw, hn, h63', h48', h48i, Question.forced, run_firstCells_none, newRow, grownCap]
  rw [if_neg hns]
  rfl
theorem drew_to {ds : List Deferred} {w : World} {g : Hp} (ok : Ok l r ds w g) : To l r ds w g ds w.drew g :=
  To.step ok rfl rfl rfl (Nat.le_refl _) (fun _ _ _ => rfl) (fun b u hb => ok.emb b u hb) (fun _ hb => .inl hb)
theorem kx_appI {T u E : TypeId} {z : Value} {sz by_ n : Nat} {x y : Operand} (hT : elB P T = some E) (hi : infB P E = some (some z, sz, by_)) (hu : P.underlying u = some (.int .i64)) (hzs : z.cells.size = sz) (hsz : decide (0 < sz) = true)
    (hx : evO t x = some (.slice none 0 0)) (hy : evO t y = some (.int .i64 (n : Nat))) (h0 : 0 < n) (hn : n ≤ maxLen) (hb : n * by_ ≤ 140737488355328)
    (hk : ∀ b c xs, n ≤ c → K (putL t d (.slice (some ⟨b, 0, none⟩) n c)) (RowC E sz (.slice (some ⟨b, 0, none⟩) n c) n xs :: H)) : SWo P l r ⟨d, .call { callee := .builtin .append, args := #[x, y], argTypes := #[T, u] }, ty, pos, af, gd⟩ K t H :=
  swo_run (fun c hc => by cases hc) fun w g ds ok al => by
    obtain ⟨i, hi1, hi2, hi3, hi4⟩ := infB_s hi
    have hrun := run_append_int (P := P) (w := w) T u ty E i z (elB_s hT) hu hi1 hi2 (by rw [hi3]; exact of_decide_eq_true hsz) n h0 (by unfold maxLen at hn; omega) (by rw [hi4]; exact hb)
    have to1 := drew_to ok
    obtain ⟨dd, to2⟩ := alloc_to to1.ok (.cells (Builtin.zeroCells z.cells n ++ Builtin.zeroCells z.cells (grownCap w n 0 E - n)) E)
    have e1 : evalL t x = .slice none 0 0 := ev_of hx
    have e2 : evalL t y = .int .i64 (n : Nat) := ev_of hy
    have hge := grownCap_ge w n 0 E
    have hzc : ∀ m, (Builtin.zeroCells z.cells m).size = m * sz := fun m => by simp [Builtin.zeroCells, hzs]
    refine ⟨_, _, _, _, ?_, hk w.heap.size (grownCap w n 0 E) ((Builtin.zeroCells z.cells n ++ Builtin.zeroCells z.cells (grownCap w n 0 E - n)).toList.take (n * sz)) hge, ⟨_, _, dd, rfl, ?_, al⟩, to1.trans to2⟩
    · simp [execOp, resolve, Result.andThen, invoke, BigFrame.builtin_append, e1, e2, hrun]
    · refine RowC.of_pt hge (grownCap_le_maxLen w n 0 E hn) ?_ _ rfl
      rw [Array.size_append, hzc, hzc, ← Nat.add_mul]
      congr 1
      omega
end
end Sx
open Sx
theorem rowc_none {E : TypeId} {sz n c : Nat} {a : Option Addr} {xs : List Value} {h : Hp} (e : RowC E sz (.slice a n c) n xs h) : RowC E sz (.slice a 0 c) 0 [] h := by
  refine ⟨by simp, ?_⟩
  rcases e.2 with ⟨h1, h2, h3⟩ | ⟨g, cap, cur, h1, h2, h3, h4, h5, h6⟩
  · injection h1 with e1 e2 e3
    subst e1; subst e3
    exact .inl ⟨rfl, rfl, h3⟩
  · injection h1 with e1 e2 e3
    subst e1; subst e3
    exact .inr ⟨g, c, cur, rfl, h2, Nat.zero_le _, h4, h5, by simp⟩
theorem grow0 (r : Hp) : Tri Try.prog r 80 [.slice none 0 0, .int .i64 (0 : Nat)] [] fun w H => w = .slice none 0 0 ∧ H = [] := by
  refine Tri.free2 fun R HR => ?_
  refine fn_of_sw Try.func80 rfl _ rfl ?_; simp only [Try.ntmps80, List.length_cons, List.length_nil, Nat.reduceAdd, Nat.reduceSub, List.replicate_succ, List.replicate_zero, List.nil_append, List.cons_append]
  repeat' (first | (refine aw0m ?_) | (refine ap2 ?_ ?_ <;> first | exact True.intro | intro h) | (exfalso; contradiction) | (refine aw1m ?_) | (refine abx ?_; intro bb) | (refine abz ?_; intro bz) | (refine ahv ?_; intro v' hv') | (refine aac ?_; intro ac cc) | (refine aw2 ?_) | (refine ap4 ?_ ?_ <;> first | exact True.intro | intro h) | (with_reducible refine tr_two ?_ ?_))
  ((with_reducible apply fp_ret); exact res_1 rfl rfl)
  exact HR.out _ _ _ [] (by (exact atks)) ⟨rfl, rfl⟩
theorem grow1 (r : Hp) (n : Nat) (h0 : ¬ n = 0) (hn : n ≤ 1000000000) : Tri Try.prog r 80 [.slice none 0 0, .int .i64 n] [] fun w H => ∃ b c xs, w = .slice (some ⟨b, 0, none⟩) 0 c ∧ H = [RowC 5 1 (.slice (some ⟨b, 0, none⟩) n c) n xs] := by
  refine Tri.free2 fun R HR => ?_
  refine fn_of_sw Try.func80 rfl _ rfl ?_; simp only [Try.ntmps80, List.length_cons, List.length_nil, Nat.reduceAdd, Nat.reduceSub, List.replicate_succ, List.replicate_zero, List.nil_append, List.cons_append]
  repeat' (first | ((with_reducible apply swo_pur); (with_reducible apply pu_slX (m := 0)); rfl; rfl; rfl; omega; (refine apk ?_)) | ((with_reducible apply kx_appI (n := n)); exact ty_el; exact ty_inf; exact Try.underlying3; rfl; rfl; rfl; rfl; omega; (unfold maxLen; omega); omega; intro b c xs hc; (refine apk ?_)) | (refine aw0 ?_) | (refine ap2 ?_ ?_ <;> first | exact True.intro | intro h) | (refine aw1 ?_) | (refine abx ?_; intro bb) | (refine abz ?_; intro bz) | (refine ahv ?_; intro v' hv') | (refine aac ?_; intro ac cc) | (refine aw2 ?_) | (refine ap4 ?_ ?_ <;> first | exact True.intro | intro h) | (with_reducible refine tr_two ?_ ?_))
  ((with_reducible apply fp_ret); exact res_1 rfl rfl)
  exact HR.out _ _ _ [_] (by (exact atks)) ⟨_, _, _, rfl, rfl⟩
theorem grow_any (r : Hp) (n : Nat) (hn : n ≤ 1000000000) : Tri Try.prog r 80 [.slice none 0 0, .int .i64 n] [] fun w H => ∃ a c, w = .slice a 0 c ∧ H = [RowC 5 1 w 0 []] := by
  by_cases h0 : n = 0
  · subst h0
    refine tri_cv (grow0 r) fun v H ⟨hv, hH⟩ => ⟨_, ⟨none, 0, hv, rfl⟩, fun g e => ?_⟩
    subst hv; subst hH
    exact all_emp (RowC.nil _ _) e
  · refine tri_cv (grow1 r n h0 hn) fun v H ⟨b, c, xs, hv, hH⟩ => ⟨_, ⟨_, c, hv, rfl⟩, fun g e => ?_⟩
    subst hv; subst hH
    exact all_imp (fun h e => rowc_none e) e
def flatB (bv : List BytV) : List UInt8 := bv.flatMap (·.data)
theorem flatB_take {bv : List BytV} {k : Nat} (h : k < bv.length) : flatB (bv.take (k + 1)) = flatB (bv.take k) ++ (bv.getD k default).data := by
  unfold flatB
  rw [List.take_succ_eq_append_getElem h, List.flatMap_append, List.getD_eq_getElem?_getD, List.getElem?_eq_getElem h]
  simp
theorem flatB_le (bv : List BytV) (k : Nat) : (flatB (bv.take k)).length ≤ (flatB bv).length := by
  have e : flatB bv = flatB (bv.take k) ++ flatB (bv.drop k) := by unfold flatB; rw [← List.flatMap_append, List.take_append_drop]
  rw [e, List.length_append]; omega
theorem u8r_app2 (a : Option Addr) (c : Nat) (l p : List UInt8) : U8R (.slice a (l ++ p).length c) (l ++ p) = RowC 5 1 (.slice a (l.length + p.length) c) (l.length + p.length) (u8s l ++ u8s p) := by
  unfold U8R
  rw [List.length_append]
  simp [u8s]
set_option maxRecDepth 10000 in
set_option maxHeartbeats 1000000 in
theorem concat_any (r : Hp) (v : Value) (bv : List BytV) (hv : Rowz r v bv) (hl : (flatB bv).length ≤ 1000000000) (hbn : bv.length ≤ 1000000000) : Tri Try.prog r 61 [v] [] fun w H => ∃ a c, w = .slice a (flatB bv).length c ∧ H = [U8R w (flatB bv)] := by
  refine Tri.free2 fun R HR => ?_
  have hve := hv.1
  refine fn_of_sw Try.func61 rfl _ rfl ?_; simp only [Try.ntmps61, List.length_cons, List.length_nil, Nat.reduceAdd, Nat.reduceSub, List.replicate_succ, List.replicate_zero, List.nil_append, List.cons_append]
  repeat' (first | (refine aw0m ?_) | (refine ap2 ?_ ?_ <;> first | exact True.intro | intro h) | (refine aw1m ?_) | (refine abx ?_; intro bb) | (refine abz ?_; intro bz) | (refine ahv ?_; intro v' hv') | (refine aac ?_; intro ac cc) | (refine aw2 ?_) | (refine ap4 ?_ ?_ <;> first | exact True.intro | intro h) | (with_reducible refine tr_two ?_ ?_))
  refine sw_loop (fun gm t H' => ∃ k : Nat, gm = bv.length + 1 - k ∧ (k ≤ bv.length) ∧ (∃ G, Takes [] H' G) ∧ (t.length = 36 ∧ t[0]? = some (v) ∧ t[3]? = some (.int .i64 ((flatB (bv.take k)).length : Nat)) ∧ t[9]? = some (v) ∧ t[10]? = some (.int .i64 bv.length) ∧ t[11]? = some (.int .i64 k))) _ ⟨0, rfl, Nat.zero_le _, ⟨_, by (exact atks)⟩, rfl, (by first | rfl | exact congrArg some (congrArg (Value.int _) (by omega)) | (congr 2 <;> omega)), (by first | rfl | exact congrArg some (congrArg (Value.int _) (by omega)) | (congr 2 <;> omega)), (by first | rfl | exact congrArg some (congrArg (Value.int _) (by omega)) | (congr 2 <;> omega)), (by first | rfl | exact congrArg some (congrArg (Value.int _) (by omega)) | (congr 2 <;> omega)), (by first | rfl | exact congrArg some (congrArg (Value.int _) (by omega)) | (congr 2 <;> omega))⟩ ?_
  rintro gm t H' ⟨k, rfl, hk, ⟨G, hp⟩, hlen, e0, e3, e9, e10, e11⟩
  revert e0 e3 e9 e10 e11; revert t; refine all_len (n := 36) ?_; iterate 36 intro uu'
  intro e0 e3 e9 e10 e11; cases e0; cases e3; cases e9; cases e10; cases e11
  refine sw_takeG hp ?_
  clear hp
  by_cases hlt : k < bv.length
  · have hb := hv.2 _ (getD_mem hlt)
    have hft := flatB_take hlt
    have hle := flatB_le bv (k + 1)
    have hlen := congrArg List.length hft
    rw [List.length_append] at hlen
    repeat' (first | (refine aw0m ?_) | (refine ap2 ?_ ?_ <;> first | exact True.intro | intro h) | (exfalso; omega) | (refine aw1m ?_) | (refine abx ?_; intro bb) | (refine abz ?_; intro bz) | (refine ahv ?_; intro v' hv') | (refine aac ?_; intro ac cc) | (refine aw2 ?_) | (refine ap4 ?_ ?_ <;> first | exact True.intro | intro h) | (with_reducible refine tr_two ?_ ?_))
    exact ⟨_, (by omega), k + 1, rfl, by omega, ⟨_, by (exact atks)⟩, rfl, (by first | rfl | exact congrArg some (congrArg (Value.int _) (by omega)) | (congr 2 <;> omega)), (by first | rfl | exact congrArg some (congrArg (Value.int _) (by omega)) | (congr 2 <;> omega)), (by first | rfl | exact congrArg some (congrArg (Value.int _) (by omega)) | (congr 2 <;> omega)), (by first | rfl | exact congrArg some (congrArg (Value.int _) (by omega)) | (congr 2 <;> omega)), (by first | rfl | exact congrArg some (congrArg (Value.int _) (by omega)) | (congr 2 <;> omega))⟩
  · obtain rfl : k = bv.length := by omega
    have htl : bv.take bv.length = bv := List.take_length
    rw [htl]
    repeat' (first | (refine aw0m ?_) | (refine ap2 ?_ ?_ <;> first | exact True.intro | intro h) | ((with_reducible apply kx_call (f := 80) (cap := [])); exact goesOf Try.func80 (by kernel_rfl) rfl; rfl; rfl; exact (grow_any _ (flatB bv).length hl); (exact atks); rintro v' H' ⟨a, c, rfl, rfl⟩; all_goals ((try simp only [List.cons_append, List.nil_append]); (refine apk ?_))) | (refine aw1m ?_) | (refine abx ?_; intro bb) | (refine abz ?_; intro bz) | (refine ahv ?_; intro v' hv') | (refine aac ?_; intro ac cc) | (refine aw2 ?_) | (refine ap4 ?_ ?_ <;> first | exact True.intro | intro h) | (with_reducible refine tr_two ?_ ?_))
    refine sw_loop (fun gm t H' => ∃ (k : Nat) (a : Option Addr) (c : Nat), gm = bv.length + 1 - k ∧ (k ≤ bv.length) ∧ (∃ G, Takes [U8R (.slice a (flatB (bv.take k)).length c) (flatB (bv.take k))] H' G) ∧ (t.length = 36 ∧ t[6]? = some (.slice a (flatB (bv.take k)).length c) ∧ t[25]? = some (v) ∧ t[26]? = some (.int .i64 bv.length) ∧ t[27]? = some (.int .i64 k))) _ ⟨0, a, c, rfl, Nat.zero_le _, ⟨_, by (exact atks)⟩, rfl, (by first | rfl | exact congrArg some (congrArg (Value.int _) (by omega)) | (congr 2 <;> omega)), (by first | rfl | exact congrArg some (congrArg (Value.int _) (by omega)) | (congr 2 <;> omega)), (by first | rfl | exact congrArg some (congrArg (Value.int _) (by omega)) | (congr 2 <;> omega)), (by first | rfl | exact congrArg some (congrArg (Value.int _) (by omega)) | (congr 2 <;> omega))⟩ ?_
    rintro gm t H' ⟨k, a, c, rfl, hk, ⟨G, hp⟩, hlen, e6, e25, e26, e27⟩
    revert e6 e25 e26 e27; revert t; refine all_len (n := 36) ?_; iterate 36 intro uu'
    intro e6 e25 e26 e27; cases e6; cases e25; cases e26; cases e27
    refine sw_takeG hp ?_
    clear hp
    by_cases hlt : k < bv.length
    · have hb := hv.2 _ (getD_mem hlt)
      have hft := flatB_take hlt
      have hle := flatB_le bv (k + 1)
      have hlen := congrArg List.length hft
      rw [List.length_append] at hlen
      repeat' (first | (refine aw0m ?_) | (refine ap2 ?_ ?_ <;> first | exact True.intro | intro h) | ((with_reducible apply kx_appS (news := u8s (bv.getD k default).data)); exact ty_el; exact ty_inf; rfl; rfl; rfl; rfl; exact hb; (exact atk); exact (u8s_one _); (unfold maxLen; omega); (omega); intro a2 c2; (refine apk ?_)) | (refine aw1m ?_) | (refine abx ?_; intro bb) | (refine abz ?_; intro bz) | (refine ahv ?_; intro v' hv') | (refine aac ?_; intro ac cc) | (refine aw2 ?_) | (refine ap4 ?_ ?_ <;> first | exact True.intro | intro h) | (with_reducible refine tr_two ?_ ?_))
      have hU : U8R (.slice a2 (flatB (bv.take (k + 1))).length c2) (flatB (bv.take (k + 1))) = RowC 5 1 (.slice a2 ((flatB (bv.take k)).length + (bv.getD k default).data.length) c2) ((flatB (bv.take k)).length + (bv.getD k default).data.length) (u8s (flatB (bv.take k)) ++ u8s (bv.getD k default).data) := by rw [hft, u8r_app2]
      rw [← hU, ← hlen]
      exact ⟨_, (by omega), k + 1, a2, c2, rfl, by omega, ⟨_, by (exact atks)⟩, rfl, (by first | rfl | exact congrArg some (congrArg (Value.int _) (by omega)) | (congr 2 <;> omega)), (by first | rfl | exact congrArg some (congrArg (Value.int _) (by omega)) | (congr 2 <;> omega)), (by first | rfl | exact congrArg some (congrArg (Value.int _) (by omega)) | (congr 2 <;> omega)), (by first | rfl | exact congrArg some (congrArg (Value.int _) (by omega)) | (congr 2 <;> omega))⟩
    · obtain rfl : k = bv.length := by omega
      rw [htl]
      repeat' (first | (refine aw0m ?_) | (refine ap2 ?_ ?_ <;> first | exact True.intro | intro h) | (refine aw1m ?_) | (refine abx ?_; intro bb) | (refine abz ?_; intro bz) | (refine ahv ?_; intro v' hv') | (refine aac ?_; intro ac cc) | (refine aw2 ?_) | (refine ap4 ?_ ?_ <;> first | exact True.intro | intro h) | (with_reducible refine tr_two ?_ ?_))
      ((with_reducible apply fp_ret); exact res_1 rfl rfl)
      exact HR.out _ _ _ [_] (by (exact atks)) ⟨_, _, rfl, rfl⟩
end Go.Proofs.Ytkbajhiahpkgiaa
