/- mudlarkref02.Reader in any state: Number, Text, Fixed, Left: their contracts. -/
import Derived.Test.YtfgkhkpngnhimaaGreatRk
namespace Go.Proofs.YtfgkhkpngnhimaaGreat
open Go.RowKit Sx

theorem rnumR_any (r : Hp) (g : Nat) (v : Value) (b : List UInt8) (at_ : Nat) (bad : Bool) (most : Int) (hv : U8S r v b) (hl : b.length ≤ 100000000) (ha : at_ ≤ b.length) : Tri Tryz.prog r 102 [.pointer (some ⟨g, 0, none⟩), .int .i64 most] [pt g (rrd v at_ bad)] fun w H =>
    w = .int .i64 (numR most (refSt b at_ bad)).1 ∧ ∃ at2 bad2, at2 ≤ b.length ∧ (numR most (refSt b at_ bad)).2 = refSt b at2 bad2 ∧ H = [pt g (rrd v at2 bad2)] := by
  cases bad
  · exact rnumG_any r g v b at_ most hv hl ha
  · refine (rnumB_any r g v at_ most).mono fun w H h => ?_
    obtain ⟨rfl, rfl⟩ := h
    exact ⟨rfl, at_, true, ha, rfl, rfl⟩
set_option maxHeartbeats 1000000 in
theorem rleftR_any (r : Hp) (g : Nat) (v : Value) (b : List UInt8) (at_ : Nat) (bad : Bool) (hv : U8S r v b) (hl : b.length ≤ 100000000) (ha : at_ ≤ b.length) : Tri Tryz.prog r 105 [.pointer (some ⟨g, 0, none⟩)] [pt g (rrd v at_ bad)] fun w H =>
    w = .int .i64 (match refSt b at_ bad with | none => 0 | some l => l.length : Nat) ∧ H = [pt g (rrd v at_ bad)] := by
  refine Tri.free2 fun R HR => ?_
  refine fn_of_sw Tryz.func105 rfl _ rfl ?_; simp only [Tryz.ntmps105, List.length_cons, List.length_nil, Nat.reduceAdd, Nat.reduceSub, List.replicate_succ, List.replicate_zero, List.nil_append, List.cons_append]
  cases bad
  all_goals
    repeat' (first | (refine aw0m ?_) | (refine ap2 ?_ ?_ <;> first | exact True.intro | intro h) | (first | ((with_reducible apply sw_draw (id := 3) 10 [(0, true), (1, true), (2, true), (3, true), (4, true), (5, true), (6, true), (7, true), (8, true), (9, true)] [(10, false)] [(g, rrd v at_ false)]); kernel_rfl; (exact atks); kernel_rfl; intro r' hl')) | (refine aw1m ?_) | (refine abx ?_; intro bb) | (refine abz ?_; intro bz) | (refine ahv ?_; intro v' hv') | (refine aac ?_; intro ac cc) | (refine aw2 ?_) | (refine ap4 ?_ ?_ <;> first | exact True.intro | intro h) | (with_reducible refine tr_two ?_ ?_))
    ((with_reducible apply fp_ret); exact res_1 rfl rfl)
    exact HR.out _ _ _ [_] (by (exact atks)) ⟨by first | rfl | (congr 1; simp [refSt]; omega), rfl⟩
set_option maxHeartbeats 2000000 in
theorem rtextR_any (r : Hp) (g : Nat) (v : Value) (b : List UInt8) (at_ : Nat) (bad : Bool) (most : Int) (hv : U8S r v b) (hl : b.length ≤ 100000000) (ha : at_ ≤ b.length) : Tri Tryz.prog r 103 [.pointer (some ⟨g, 0, none⟩), .int .i64 most] [pt g (rrd v at_ bad)] fun w H =>
    ∃ a c at2 bad2, w = .slice a (textR most (refSt b at_ bad)).1.length c ∧ at2 ≤ b.length ∧ (textR most (refSt b at_ bad)).2 = refSt b at2 bad2 ∧ H = [U8R w (textR most (refSt b at_ bad)).1, pt g (rrd v at2 bad2)] := by
  refine Tri.free2 fun R HR => ?_
  have hc := rnumR_any r g v b at_ bad most hv hl ha
  have hle := numR_le most (refSt b at_ bad)
  unfold textR at HR
  generalize numR most (refSt b at_ bad) = p at hc hle HR
  obtain ⟨n, st⟩ := p
  dsimp only at hc hle HR
  unfold maxNum at hle
  refine fn_of_sw Tryz.func103 rfl _ rfl ?_; simp only [Tryz.ntmps103, List.length_cons, List.length_nil, Nat.reduceAdd, Nat.reduceSub, List.replicate_succ, List.replicate_zero, List.nil_append, List.cons_append]
  repeat' (first | (refine aw0m ?_) | (refine ap2 ?_ ?_ <;> first | exact True.intro | intro h) | ((with_reducible apply kx_call (f := 102) (cap := [])); exact goesOf Tryz.func102 (by kernel_rfl) rfl; rfl; rfl; exact (hc); (exact atks); rintro v' H' ⟨rfl, at2, bad2, ha2, rfl, rfl⟩; all_goals ((try simp only [List.cons_append, List.nil_append]); (refine apk ?_))) | (refine aw1m ?_) | (refine abx ?_; intro bb) | (refine abz ?_; intro bz) | (refine ahv ?_; intro v' hv') | (refine aac ?_; intro ac cc) | (refine aw2 ?_) | (refine ap4 ?_ ?_ <;> first | exact True.intro | intro h) | (with_reducible refine tr_two ?_ ?_))
  cases bad2
  · by_cases hn : at2 + n ≤ b.length
    · have e : takeR n (refSt b at2 false) = ((b.drop at2).take n, some (b.drop (at2 + n))) := by
        simp only [refSt, Bool.false_eq_true, if_false, takeR]; rw [if_neg (by simp; omega), List.drop_drop]
      rw [e] at HR
      repeat' (first | (first | ((with_reducible apply sw_draw (id := 2) 18 [(0, true), (1, true), (2, true), (3, true), (4, true), (5, true), (6, true), (7, true), (8, true), (9, true), (10, true), (11, true), (12, true), (13, true), (14, true), (15, true), (16, true), (17, true)] [] [(g, rrd v at2 false)]); kernel_rfl; (exact atks); kernel_rfl; intro r' hl') | ((with_reducible apply sw_draw (id := 6) 17 [(1, true), (2, true), (3, true), (4, true), (5, true), (6, true), (7, true), (8, true), (9, true), (10, true), (11, true), (12, true), (13, true), (14, true), (15, true), (0, false), (16, false)] [(17, false)] [(g, rrd v (at2 + n) false)]); kernel_rfl; (exact atks); kernel_rfl; intro r' hl')) | ((with_reducible apply kx_appS); exact ty_el; exact ty_inf; rfl; rfl; rfl; rfl; assumption; (exact atk); exact u8s_one _; (simp [maxLen]; omega); (simp; omega); intro a' c'; (refine apk ?_)) | (refine aw0 ?_) | (refine ap2 ?_ ?_ <;> first | exact True.intro | intro h) | (refine aw1 ?_) | (refine abx ?_; intro bb) | (refine abz ?_; intro bz) | (refine ahv ?_; intro v' hv') | (refine aac ?_; intro ac cc) | (refine aw2 ?_) | (refine ap4 ?_ ?_ <;> first | exact True.intro | intro h) | (with_reducible refine tr_two ?_ ?_))
      have hlen : ((b.drop at2).take n).length = n := by simp; omega
      have e1 : (((at2 + n : Nat) : Int) - (n : Nat)).toNat = at2 := by omega
      simp only [e1, Int.toNat_natCast, Nat.add_sub_cancel_left, hlen, Nat.zero_add]
      ((with_reducible apply fp_ret); exact res_1 rfl rfl)
      exact HR.out _ _ _ [RowC _ _ _ _ _, pt g _] (by (exact atks)) ⟨_, _, at2 + n, false, by rw [hlen], by omega, rfl, by unfold U8R; rw [hlen]⟩
    · have e : takeR n (refSt b at2 false) = ([], none) := by
        simp only [refSt, Bool.false_eq_true, if_false, takeR]; rw [if_pos (by simp; omega)]
      rw [e] at HR
      refine sw_put (A := U8R (.slice none 0 0) []) (RowC.nil _ _) ?_
      repeat' (first | (refine aw0m ?_) | (refine ap2 ?_ ?_ <;> first | exact True.intro | intro h) | (first | ((with_reducible apply sw_draw (id := 2) 18 [(0, true), (1, true), (2, true), (3, true), (4, true), (5, true), (6, true), (7, true), (8, true), (9, true), (10, true), (11, true), (12, true), (13, true), (14, true), (15, true), (16, true), (17, true)] [] [(g, rrd v at2 false)]); kernel_rfl; (exact atks); kernel_rfl; intro r' hl')) | (refine aw1m ?_) | (refine abx ?_; intro bb) | (refine abz ?_; intro bz) | (refine ahv ?_; intro v' hv') | (refine aac ?_; intro ac cc) | (refine aw2 ?_) | (refine ap4 ?_ ?_ <;> first | exact True.intro | intro h) | (with_reducible refine tr_two ?_ ?_))
      ((with_reducible apply fp_ret); exact res_1 rfl rfl)
      exact HR.out _ _ _ [U8R _ _, pt g _] (by (exact atks)) ⟨_, _, at2, true, rfl, by omega, rfl, rfl⟩
  · refine sw_put (A := U8R (.slice none 0 0) []) (RowC.nil _ _) ?_
    repeat' (first | (refine aw0m ?_) | (refine ap2 ?_ ?_ <;> first | exact True.intro | intro h) | (first | ((with_reducible apply sw_draw (id := 2) 18 [(0, true), (1, true), (2, true), (3, true), (4, true), (5, true), (6, true), (7, true), (8, true), (9, true), (10, true), (11, true), (12, true), (13, true), (14, true), (15, true), (16, true), (17, true)] [] [(g, rrd v at2 true)]); kernel_rfl; (exact atks); kernel_rfl; intro r' hl')) | (refine aw1m ?_) | (refine abx ?_; intro bb) | (refine abz ?_; intro bz) | (refine ahv ?_; intro v' hv') | (refine aac ?_; intro ac cc) | (refine aw2 ?_) | (refine ap4 ?_ ?_ <;> first | exact True.intro | intro h) | (with_reducible refine tr_two ?_ ?_))
    ((with_reducible apply fp_ret); exact res_1 rfl rfl)
    exact HR.out _ _ _ [U8R _ _, pt g _] (by (exact atks)) ⟨_, _, at2, true, rfl, by omega, rfl, rfl⟩
/-- What a reference's reader has read of a fixed number. -/
def fixAcc (l : List UInt8) : Nat → Nat
  | 0 => 0
  | k + 1 => fixAcc l k + (l.getD k 0).toNat * 256 ^ k
theorem fixAcc_lt (l : List UInt8) (k : Nat) : fixAcc l k < 256 ^ k := by
  induction k with
  | zero => simp [fixAcc]
  | succ k ih =>
    have h1 := (l.getD k 0).toNat_lt
    have h2 : (l.getD k 0).toNat * 256 ^ k ≤ 255 * 256 ^ k := Nat.mul_le_mul_right _ (by omega)
    simp only [fixAcc, Nat.pow_succ]; omega
theorem or_sum' (q x k : Nat) (hk : k ≤ 3) (hq : q < 256 ^ k) (hx : x < 256) : bitI .or .u32 (q : Int) ((x * 256 ^ k : Nat) : Int) = ((q + x * 256 ^ k : Nat) : Int) := by
  have h1 : 256 ^ k = 2 ^ (8 * k) := by rw [Nat.pow_mul]
  have h3 : x * 256 ^ k ≤ 255 * 256 ^ k := Nat.mul_le_mul_right _ (by omega)
  have h4 : 256 ^ k ≤ 256 ^ 3 := Nat.pow_le_pow_right (by omega) hk
  have h2 := or_sum q x (8 * k) (by rw [← h1]; exact hq) (by rw [← h1]; omega)
  rw [← h1] at h2
  rw [Int.natCast_mul]
  exact h2
set_option maxRecDepth 10000 in
set_option maxHeartbeats 2000000 in
theorem rfixR_any (r : Hp) (g : Nat) (v : Value) (b : List UInt8) (at_ : Nat) (bad : Bool) (hv : U8S r v b) (hl : b.length ≤ 100000000) (ha : at_ ≤ b.length) : Tri Tryz.prog r 104 [.pointer (some ⟨g, 0, none⟩)] [pt g (rrd v at_ bad)] fun w H =>
    w = .int .u32 (fixR (refSt b at_ bad)).1 ∧ ∃ at2 bad2, at2 ≤ b.length ∧ (fixR (refSt b at_ bad)).2 = refSt b at2 bad2 ∧ H = [pt g (rrd v at2 bad2)] := by
  refine Tri.free2 fun R HR => ?_
  refine fn_of_sw Tryz.func104 rfl _ rfl ?_; simp only [Tryz.ntmps104, List.length_cons, List.length_nil, Nat.reduceAdd, Nat.reduceSub, List.replicate_succ, List.replicate_zero, List.nil_append, List.cons_append]
  repeat' (first | (refine aw0m ?_) | (refine ap2 ?_ ?_ <;> first | exact True.intro | intro h) | (refine aw1m ?_) | (refine abx ?_; intro bb) | (refine abz ?_; intro bz) | (refine ahv ?_; intro v' hv') | (refine aac ?_; intro ac cc) | (refine aw2 ?_) | (refine ap4 ?_ ?_ <;> first | exact True.intro | intro h) | (with_reducible refine tr_two ?_ ?_))
  refine sw_loop (fun gm t H' => ∃ (k at2 : Nat) (av : Int) (bad2 : Bool), gm = 5 - k ∧ (k ≤ 4) ∧ (at2 ≤ b.length) ∧ (bad2 = true → fixR (refSt b at_ bad) = (0, none)) ∧ (bad2 = false → bad = false ∧ at2 = at_ + k ∧ av = (fixAcc (b.drop at_) k : Nat)) ∧ (∃ G, Takes [pt g (rrd v at2 bad2)] H' G) ∧ (t.length = 22 ∧ t[0]? = some (.pointer (some ⟨g, 0, none⟩)) ∧ t[3]? = some (.int .u32 av) ∧ t[4]? = some (.int .i64 k))) _ ⟨0, at_, 0, bad, rfl, by omega, ha, by rintro rfl; rfl, by rintro rfl; exact ⟨rfl, rfl, rfl⟩, ⟨_, by (exact atks)⟩, rfl, (by first | rfl | exact congrArg some (congrArg (Value.int _) (by omega)) | (congr 2 <;> omega)), (by first | rfl | exact congrArg some (congrArg (Value.int _) (by omega)) | (congr 2 <;> omega)), (by first | rfl | exact congrArg some (congrArg (Value.int _) (by omega)) | (congr 2 <;> omega))⟩ ?_
  rintro gm t H' ⟨k, at2, av, bad2, rfl, hk, hat, hb1, hb2, ⟨G, hp⟩, hlen, e0, e3, e4⟩
  revert e0 e3 e4; revert t; refine all_len (n := 22) ?_; iterate 22 intro uu'
  intro e0 e3 e4; cases e0; cases e3; cases e4
  refine sw_takeG hp ?_
  clear hp
  by_cases hk4 : k < 4
  · cases bad2
    · obtain ⟨rfl, rfl, rfl⟩ := hb2 rfl
      have hq := fixAcc_lt (b.drop at_) k
      have hx := (b.getD (at_ + k) 0).toNat_lt
      have hd : (b.drop at_).getD k 0 = b.getD (at_ + k) 0 := by simp [List.getD_eq_getElem?_getD]
      have hor := or_sum' (fixAcc (b.drop at_) k) (b.getD (at_ + k) 0).toNat k (by omega) hq (by omega)
      have h4 : 256 ^ k ≤ 256 ^ 3 := Nat.pow_le_pow_right (by omega) (by omega)
      have h3 : (b.getD (at_ + k) 0).toNat * 256 ^ k ≤ 255 * 256 ^ k := Nat.mul_le_mul_right _ (by omega)
      have hsh : IntKind.u32.wrap ((((b.getD (at_ + k) 0).toNat : Nat) : Int) * 2 ^ (8 * (k : Int)).toNat) = (((b.getD (at_ + k) 0).toNat * 256 ^ k : Nat) : Int) := by
        rw [show (8 * (k : Int)).toNat = 8 * k by omega, show (2 : Int) ^ (8 * k) = ((256 ^ k : Nat) : Int) by rw [Int.pow_mul]; simp, ← Int.natCast_mul]
        exact inR_wrap (inR_u32 (by omega) (by omega))
      have hfn : at_ + k = b.length → fixR (refSt b at_ false) = (0, none) := fun e => by
        have hl2 : (b.drop at_).length = k := by simp; omega
        simp only [refSt, Bool.false_eq_true, if_false]
        generalize b.drop at_ = m at hl2
        match m, hl2 with
        | [], _ => rfl
        | [_], _ => rfl
        | [_, _], _ => rfl
        | [_, _, _], _ => rfl
        | _ :: _ :: _ :: _ :: _, h => simp at h; omega
      repeat' (first | ((with_reducible apply swo_pur); ((with_reducible apply pu_shlE (c := (((b.getD (at_ + k) 0).toNat * 256 ^ k : Nat) : Int))); rfl; rfl; (first | omega | (constructor <;> (try simp only [IntKind.bits]) <;> omega)); exact hsh); (refine apk ?_)) | ((with_reducible apply kx_call (f := 143) (cap := [])); exact goesOf Tryz.func143 (by kernel_rfl) rfl; rfl; rfl; exact (rnext_any r g v b (at_ + k) hv hl hat); (exact atks); rintro v' H' (⟨hlt, rfl, rfl⟩ | ⟨hge, rfl, rfl⟩); all_goals ((try simp only [List.cons_append, List.nil_append]); (refine apk ?_))) | (refine aw0 ?_) | (refine ap2 ?_ ?_ <;> first | exact True.intro | intro h) | (refine aw1 ?_) | (refine abx ?_; intro bb) | (refine abz ?_; intro bz) | (refine ahv ?_; intro v' hv') | (refine aac ?_; intro ac cc) | (refine aw2 ?_) | (refine ap4 ?_ ?_ <;> first | exact True.intro | intro h) | (with_reducible refine tr_two ?_ ?_))
      · exact ⟨_, (by omega), k + 1, at_ + k + 1, bitI .or .u32 (fixAcc (b.drop at_) k : Nat) (((b.getD (at_ + k) 0).toNat * 256 ^ k : Nat) : Int), false, rfl, by omega, by omega, (fun h => by cases h), fun _ => ⟨by simp, by omega, by rw [hor, fixAcc, hd]⟩, ⟨_, by (exact atks)⟩, rfl, (by first | rfl | exact congrArg some (congrArg (Value.int _) (by omega)) | (congr 2 <;> omega)), (by first | rfl | exact congrArg some (congrArg (Value.int _) (by omega)) | (congr 2 <;> omega)), (by first | rfl | exact congrArg some (congrArg (Value.int _) (by omega)) | (congr 2 <;> omega))⟩
      · exact ⟨_, (by omega), k + 1, at_ + k, _, true, rfl, by omega, by omega, (fun _ => hfn hge), (fun h => by cases h), ⟨_, by (exact atks)⟩, rfl, (by first | rfl | exact congrArg some (congrArg (Value.int _) (by omega)) | (congr 2 <;> omega)), (by first | rfl | exact congrArg some (congrArg (Value.int _) (by omega)) | (congr 2 <;> omega)), (by first | rfl | exact congrArg some (congrArg (Value.int _) (by omega)) | (congr 2 <;> omega))⟩
    · repeat' (first | (refine aw0m ?_) | (refine ap2 ?_ ?_ <;> first | exact True.intro | intro h) | ((with_reducible apply kx_call (f := 143) (cap := [])); exact goesOf Tryz.func143 (by kernel_rfl) rfl; rfl; rfl; exact (rnext_bad r g v at2); (exact atks); rintro v' H' ⟨rfl, rfl⟩; all_goals ((try simp only [List.cons_append, List.nil_append]); (refine apk ?_))) | (refine aw1m ?_) | (refine abx ?_; intro bb) | (refine abz ?_; intro bz) | (refine ahv ?_; intro v' hv') | (refine aac ?_; intro ac cc) | (refine aw2 ?_) | (refine ap4 ?_ ?_ <;> first | exact True.intro | intro h) | (with_reducible refine tr_two ?_ ?_))
      exact ⟨_, (by omega), k + 1, at2, _, true, rfl, by omega, by omega, hb1, (fun h => by cases h), ⟨_, by (exact atks)⟩, rfl, (by first | rfl | exact congrArg some (congrArg (Value.int _) (by omega)) | (congr 2 <;> omega)), (by first | rfl | exact congrArg some (congrArg (Value.int _) (by omega)) | (congr 2 <;> omega)), (by first | rfl | exact congrArg some (congrArg (Value.int _) (by omega)) | (congr 2 <;> omega))⟩
  · obtain rfl : k = 4 := by omega
    cases bad2
    · obtain ⟨rfl, rfl, rfl⟩ := hb2 rfl
      have hf : fixR (refSt b at_ false) = (fixAcc (b.drop at_) 4, some (b.drop (at_ + 4))) := by
        have hl2 : 4 ≤ (b.drop at_).length := by simp; omega
        have e : b.drop (at_ + 4) = (b.drop at_).drop 4 := by rw [List.drop_drop]
        rw [e]
        simp only [refSt, Bool.false_eq_true, if_false]
        generalize b.drop at_ = m at hl2
        match m, hl2 with
        | a :: b :: c :: d :: l, _ => simp [fixR, fixAcc, ofBytes]; omega
        | [], h => simp at h
        | [_], h => simp at h
        | [_, _], h => simp at h
        | [_, _, _], h => simp at h
      repeat' (first | (refine aw0m ?_) | (refine ap2 ?_ ?_ <;> first | exact True.intro | intro h) | (refine aw1m ?_) | (refine abx ?_; intro bb) | (refine abz ?_; intro bz) | (refine ahv ?_; intro v' hv') | (refine aac ?_; intro ac cc) | (refine aw2 ?_) | (refine ap4 ?_ ?_ <;> first | exact True.intro | intro h) | (with_reducible refine tr_two ?_ ?_))
      ((with_reducible apply fp_ret); exact res_1 rfl rfl)
      exact HR.out _ _ _ [_] (by (exact atks)) ⟨by rw [hf], at_ + 4, false, by omega, by rw [hf]; rfl, rfl⟩
    · repeat' (first | (refine aw0m ?_) | (refine ap2 ?_ ?_ <;> first | exact True.intro | intro h) | (refine aw1m ?_) | (refine abx ?_; intro bb) | (refine abz ?_; intro bz) | (refine ahv ?_; intro v' hv') | (refine aac ?_; intro ac cc) | (refine aw2 ?_) | (refine ap4 ?_ ?_ <;> first | exact True.intro | intro h) | (with_reducible refine tr_two ?_ ?_))
      ((with_reducible apply fp_ret); exact res_1 rfl rfl)
      exact HR.out _ _ _ [_] (by (exact atks)) ⟨by rw [hb1 rfl]; rfl, at2, true, by omega, by rw [hb1 rfl]; rfl, rfl⟩
end Go.Proofs.YtfgkhkpngnhimaaGreat
