/- post.blocked: its contract. -/
import Derived.Test.YtkbajhiahpkgiaaPf
import Derived.Test.YtkbajhiahpkgiaaWe
namespace Go.Proofs.Ytkbajhiahpkgiaa
open Go.RowKit Sx

theorem number2_any (r : Hp) (g : Nat) (v : Value) (l : List UInt8) (nv : Value) (a b : Int) (hs : Sl r 1 nv 2 [.int .i64 a, .int .i64 b]) (ha : 0 ≤ a ∧ a ≤ 1099511627776) (hb : 0 ≤ b ∧ b ≤ 1099511627776) (hl : l.length ≤ 60000000000000) :
    Tri Try.prog r 32 [.pointer (some ⟨g, 0, none⟩), nv] [pt g (wri v false), U8R v l] fun _ H => ∃ v', H = [pt g (wri v' false), U8R v' (l ++ (septs a.toNat ++ septs b.toNat))] := by
  refine (number_any r g v false l nv 2 [a, b] hs (by omega)).mono ?_
  rintro w H ⟨v', l', rfl, rfl⟩
  have h1 : badNum a = false := by unfold badNum; simp; omega
  have h2 : badNum b = false := by unfold badNum; simp; omega
  have hb : [a, b].any badNum = false := by simp [h1, h2]
  rw [hb]
  exact ⟨v', by simp [numsOf, U8R]⟩
def atP (a p : PlaceV) : Int := if p.doc = a.doc then p.pos - (a.pos + 1) else p.pos
theorem blockB_len : ∀ (ls : List PlaceV) (a : PlaceV), chainP a ls = true → 0 ≤ a.doc → -1 ≤ a.pos → (blockB a ls).length ≤ ls.length * 12
  | [], _, _, _, _ => by simp [blockB]
  | p :: ls, a, h, h1, h2 => by
    rw [chainP, Bool.and_eq_true] at h
    have hf := h.1
    simp only [fitsP, Bool.and_eq_true, Bool.or_eq_true, decide_eq_true_eq] at hf
    have ih := blockB_len ls p h.2 (by omega) (by omega)
    have e1 := septs_len6 (n := (p.doc - a.doc).toNat) (by unfold maxNum; omega)
    have e2 := septs_len6 (n := (if p.doc = a.doc then p.pos - (a.pos + 1) else p.pos).toNat) (by unfold maxNum; split <;> omega)
    simp only [blockB, List.length_append, List.length_cons]
    omega
set_option maxRecDepth 10000 in
set_option maxHeartbeats 2000000 in
theorem blocked_any (r : Hp) (v : Value) (ls : List PlaceV) (a0 : PlaceV) (hv : Els r 2 encPl v ls) (hne : 0 < ls.length) (hc0 : chainP a0 ls = true) (hl : ls.length ≤ 1000000) : Tri Try.prog r 60 [v] [] fun w H => ∃ a c, w = .slice a (block1 ls).length c ∧ H = [U8R w (block1 ls)] := by
  refine Tri.free2 fun R HR => ?_
  have h0 : chainP ⟨(ls.getD 0 default).doc, -1⟩ ls = true ∧ 0 ≤ (ls.getD 0 default).doc ∧ (ls.getD 0 default).doc < 4000 := by
    cases ls with
    | nil => simp at hne
    | cons p ls =>
      rw [chainP, Bool.and_eq_true] at hc0
      have hf := hc0.1
      simp only [fitsP, Bool.and_eq_true, Bool.or_eq_true, decide_eq_true_eq] at hf
      refine ⟨?_, hf.1.1.1.1, hf.1.1.1.2⟩
      rw [chainP, hc0.2]
      simp only [fitsP, List.getD_cons_zero, Bool.and_true, Bool.and_eq_true, Bool.or_eq_true, decide_eq_true_eq]
      refine ⟨hf.1, .inr ⟨trivial, ?_⟩⟩
      have := hf.1.1.2
      omega
  have hb1 : block1 ls = blockB ⟨(ls.getD 0 default).doc, -1⟩ ls := by cases ls <;> rfl
  have hbl := blockB_len ls _ h0.1 h0.2.1 (by simp)
  rw [← hb1] at hbl
  refine fn_of_sw Try.func60 rfl _ rfl ?_; simp only [Try.ntmps60, List.length_cons, List.length_nil, Nat.reduceAdd, Nat.reduceSub, List.replicate_succ, List.replicate_zero, List.nil_append, List.cons_append]
  repeat' (first | (refine aw0m ?_) | (refine ap2 ?_ ?_ <;> first | exact True.intro | intro h) | (refine aw1m ?_) | (refine abx ?_; intro bb) | (refine abz ?_; intro bz) | (refine ahv ?_; intro v' hv') | (refine aac ?_; intro ac cc) | (refine aw2 ?_) | (refine ap4 ?_ ?_ <;> first | exact True.intro | intro h) | (with_reducible refine tr_two ?_ ?_))
  refine sw_put (A := RowC 5 1 (.slice none 0 0) 0 []) (RowC.nil _ _) ?_
  refine sw_loop (fun gm t H' => ∃ (k bw ba : Nat) (wv : Value) (W : List UInt8) (a : PlaceV), gm = ls.length + 1 - k ∧ (k ≤ ls.length) ∧ (block1 ls = W ++ blockB a (ls.drop k)) ∧ (chainP a (ls.drop k) = true) ∧ (0 ≤ a.doc ∧ a.doc < 4000) ∧ (-1 ≤ a.pos ∧ a.pos ≤ 1048576) ∧ (∃ G, Takes [pt bw (wri wv false), pt ba (.cells (encPl a).toArray 44 (0, 0)), U8R wv W] H' G) ∧ (t.length = 42 ∧ t[3]? = some (.pointer (some ⟨bw, 0, none⟩)) ∧ t[4]? = some (.pointer (some ⟨ba, 0, none⟩)) ∧ t[13]? = some (v) ∧ t[14]? = some (.int .i64 ls.length) ∧ t[15]? = some (.int .i64 k))) _ ⟨0, _, _, .slice none 0 0, [], ⟨(ls.getD 0 default).doc, -1⟩, rfl, Nat.zero_le _, hb1, h0.1, h0.2, by simp, ⟨_, by (exact atks)⟩, rfl, (by first | rfl | exact congrArg some (congrArg (Value.int _) (by omega)) | (congr 2 <;> omega)), (by first | rfl | exact congrArg some (congrArg (Value.int _) (by omega)) | (congr 2 <;> omega)), (by first | rfl | exact congrArg some (congrArg (Value.int _) (by omega)) | (congr 2 <;> omega)), (by first | rfl | exact congrArg some (congrArg (Value.int _) (by omega)) | (congr 2 <;> omega)), (by first | rfl | exact congrArg some (congrArg (Value.int _) (by omega)) | (congr 2 <;> omega))⟩ ?_
  rintro gm t H' ⟨k, bw, ba, wv, W, a, rfl, hk, hW, hc, had, hap, ⟨G, hp⟩, hlen, e3, e4, e13, e14, e15⟩
  revert e3 e4 e13 e14 e15; revert t; refine all_len (n := 42) ?_; iterate 42 intro uu'
  intro e3 e4 e13 e14 e15; cases e3; cases e4; cases e13; cases e14; cases e15
  refine sw_takeG hp ?_
  clear hp
  by_cases hlt : k < ls.length
  · rw [getD_drop hlt, chainP, Bool.and_eq_true] at hc
    have hf := hc.1
    simp only [fitsP, Bool.and_eq_true, Bool.or_eq_true, decide_eq_true_eq] at hf
    rw [getD_drop hlt, blockB] at hW
    have hWl : W.length ≤ 12000000 := by
      have := congrArg List.length hW
      rw [List.length_append] at this
      omega
    by_cases hd : (ls.getD k default).doc = a.doc
    · rw [if_pos hd] at hW
      repeat' (first | (refine aw0m ?_) | (refine ap2 ?_ ?_ <;> first | exact True.intro | intro h) | (refine aw1m ?_) | (refine abx ?_; intro bb) | (refine abz ?_; intro bz) | (refine ahv ?_; intro v' hv') | (refine aac ?_; intro ac cc) | (refine aw2 ?_) | (refine ap4 ?_ ?_ <;> first | exact True.intro | intro h) | (with_reducible refine tr_two ?_ ?_))
      generalize ls.getD k default = p at hc hf hW hd ⊢
      repeat' (first | (refine aw0m ?_) | (refine ap2 ?_ ?_ <;> first | exact True.intro | intro h) | ((with_reducible apply kx_lend [(bz, .cells [.int .i64 (p.doc - a.doc), .int .i64 (p.pos - (a.pos + 1))].toArray 3 (0, 0))]); (exact atks); intro r' hl'; (with_reducible apply kx_call (f := 32) (cap := [])); exact goesOf Try.func32 (by kernel_rfl) rfl; rfl; rfl; exact (number2_any _ bw wv W _ (p.doc - a.doc) (p.pos - (a.pos + 1)) (Sl.lit (n := 2) (Lent.h1 hl') rfl (by simp [maxLen])) (by omega) (by omega) (by omega)); (exact atks); rintro v' H' ⟨w', rfl⟩; all_goals ((try simp only [pts, List.map_cons, List.map_nil, List.cons_append, List.nil_append]); (refine apk ?_))) | (refine aw1m ?_) | (refine abx ?_; intro bb) | (refine abz ?_; intro bz) | (refine ahv ?_; intro v' hv') | (refine aac ?_; intro ac cc) | (refine aw2 ?_) | (refine ap4 ?_ ?_ <;> first | exact True.intro | intro h) | (with_reducible refine tr_two ?_ ?_))
      exact ⟨_, (by omega), k + 1, bw, ba, w', W ++ (septs (p.doc - a.doc).toNat ++ septs (p.pos - (a.pos + 1)).toNat), p, rfl, by omega, by rw [hW]; simp only [List.append_assoc], hc.2, by omega, by omega, ⟨_, by (exact atks)⟩, rfl, (by first | rfl | exact congrArg some (congrArg (Value.int _) (by omega)) | (congr 2 <;> omega)), (by first | rfl | exact congrArg some (congrArg (Value.int _) (by omega)) | (congr 2 <;> omega)), (by first | rfl | exact congrArg some (congrArg (Value.int _) (by omega)) | (congr 2 <;> omega)), (by first | rfl | exact congrArg some (congrArg (Value.int _) (by omega)) | (congr 2 <;> omega)), (by first | rfl | exact congrArg some (congrArg (Value.int _) (by omega)) | (congr 2 <;> omega))⟩
    · rw [if_neg hd] at hW
      repeat' (first | (refine aw0m ?_) | (refine ap2 ?_ ?_ <;> first | exact True.intro | intro h) | (refine aw1m ?_) | (refine abx ?_; intro bb) | (refine abz ?_; intro bz) | (refine ahv ?_; intro v' hv') | (refine aac ?_; intro ac cc) | (refine aw2 ?_) | (refine ap4 ?_ ?_ <;> first | exact True.intro | intro h) | (with_reducible refine tr_two ?_ ?_))
      generalize ls.getD k default = p at hc hf hW hd ⊢
      repeat' (first | (refine aw0m ?_) | (refine ap2 ?_ ?_ <;> first | exact True.intro | intro h) | ((with_reducible apply kx_lend [(bz, .cells [.int .i64 (p.doc - a.doc), .int .i64 p.pos].toArray 3 (0, 0))]); (exact atks); intro r' hl'; (with_reducible apply kx_call (f := 32) (cap := [])); exact goesOf Try.func32 (by kernel_rfl) rfl; rfl; rfl; exact (number2_any _ bw wv W _ (p.doc - a.doc) p.pos (Sl.lit (n := 2) (Lent.h1 hl') rfl (by simp [maxLen])) (by omega) (by omega) (by omega)); (exact atks); rintro v' H' ⟨w', rfl⟩; all_goals ((try simp only [pts, List.map_cons, List.map_nil, List.cons_append, List.nil_append]); (refine apk ?_))) | (refine aw1m ?_) | (refine abx ?_; intro bb) | (refine abz ?_; intro bz) | (refine ahv ?_; intro v' hv') | (refine aac ?_; intro ac cc) | (refine aw2 ?_) | (refine ap4 ?_ ?_ <;> first | exact True.intro | intro h) | (with_reducible refine tr_two ?_ ?_))
      exact ⟨_, (by omega), k + 1, bw, ba, w', W ++ (septs (p.doc - a.doc).toNat ++ septs (p.pos).toNat), p, rfl, by omega, by rw [hW]; simp only [List.append_assoc], hc.2, by omega, by omega, ⟨_, by (exact atks)⟩, rfl, (by first | rfl | exact congrArg some (congrArg (Value.int _) (by omega)) | (congr 2 <;> omega)), (by first | rfl | exact congrArg some (congrArg (Value.int _) (by omega)) | (congr 2 <;> omega)), (by first | rfl | exact congrArg some (congrArg (Value.int _) (by omega)) | (congr 2 <;> omega)), (by first | rfl | exact congrArg some (congrArg (Value.int _) (by omega)) | (congr 2 <;> omega)), (by first | rfl | exact congrArg some (congrArg (Value.int _) (by omega)) | (congr 2 <;> omega))⟩
  · obtain rfl : k = ls.length := by omega
    rw [List.drop_length, blockB, List.append_nil] at hW
    subst hW
    repeat' (first | (refine aw0m ?_) | (refine ap2 ?_ ?_ <;> first | exact True.intro | intro h) | ((with_reducible apply kx_call (f := 35) (cap := [])); exact goesOf Try.func35 (by kernel_rfl) rfl; rfl; rfl; exact (wbytes_any _ bw wv (block1 ls) (by omega)); (exact atks); rintro v' H' ⟨a, c, rfl, rfl⟩; all_goals ((try simp only [List.cons_append, List.nil_append]); (refine apk ?_))) | (refine aw1m ?_) | (refine abx ?_; intro bb) | (refine abz ?_; intro bz) | (refine ahv ?_; intro v' hv') | (refine aac ?_; intro ac cc) | (refine aw2 ?_) | (refine ap4 ?_ ?_ <;> first | exact True.intro | intro h) | (with_reducible refine tr_two ?_ ?_))
    ((with_reducible apply fp_ret); exact res_1 rfl rfl)
    exact HR.out _ _ _ [_] (by (exact atks)) ⟨_, _, rfl, rfl⟩
end Go.Proofs.Ytkbajhiahpkgiaa
