/- wire.Writer.Number: its contract. -/
import Derived.Test.YtkbajhiahpkgiaaWb
namespace Go.Proofs.Ytkbajhiahpkgiaa
open Go.RowKit Sx

attribute [local go_sem] Oper.semAt_some

set_option maxRecDepth 10000 in
set_option maxHeartbeats 1000000 in
theorem number_any (r : Hp) (g : Nat) (v : Value) (bad : Bool) (l : List UInt8) (nv : Value) (n : Nat) (xs : List Int) (hs : Sl r 1 nv n (ints xs)) (hl : l.length + 6 * n ≤ 70000000000000) :
    Tri Try.prog r 32 [.pointer (some ⟨g, 0, none⟩), nv] [pt g (wri v bad), RowC 5 1 v l.length (u8s l)] fun _ H => ∃ v' l', l' = (if bad || xs.any badNum then l else l ++ numsOf xs) ∧
      H = [pt g (wri v' (bad || xs.any badNum)), RowC 5 1 v' l'.length (u8s l')] := by
  refine Tri.free fun R HR => ?_
  obtain ⟨q, hq⟩ : ∃ q, xs.any badNum = q := ⟨_, rfl⟩
  have HF := hid (fun r' (hr : sub r r') => fits_any r' nv n xs (hs.mono hr))
  rw [hq] at HF HR
  have hlx : xs.length = n := by have := hs.1; simpa [ints] using this
  have HQ := hid hq
  have HX := hid hlx
  have HL := hid hl
  have HS := hid hs
  obtain ⟨a, c, rfl⟩ := hs.form
  have hn := HS.out.2.1
  unfold maxLen at hn
  clear hs hl hq hlx
  unfold wri at *
  cases bad
  · cases q
    · refine fn_of_sw Try.func32 rfl _ rfl ?_; simp only [Try.ntmps32, List.length_cons, List.length_nil, Nat.reduceAdd, Nat.reduceSub, List.replicate_succ, List.replicate_zero, List.nil_append, List.cons_append]
      repeat' (first | (refine ax0m ?_) | (refine abb ?_; intro b) | (with_reducible refine tr_two ?_ ?_) | (refine ax1m ?_) | (refine aac ?_; intro ac cc) | (refine ax2m ?_) | (refine ap3 ?_ ?_ <;> first | exact True.intro | intro h))
      ((with_reducible apply sw_draw (id := 2) 10 [(0, true), (1, true), (2, true), (3, true), (4, false), (5, true), (6, true), (7, false), (8, true), (9, true)] [(10, false), (11, false), (12, false)] [(b, .cells [.pointer (some ⟨g, 0, none⟩)].toArray 90 (0, 0))]); kernel_rfl; (exact atks); kernel_rfl; intro r' hl')
      have hb0 := hl'.2 _ List.mem_cons_self
      have HF' := hid (HF.out r' hl'.1)
      repeat' (first | (refine ax0m ?_) | (refine abb ?_; intro b) | (with_reducible refine tr_two ?_ ?_) | ((with_reducible apply kx_call (f := 57) (cap := [])); exact goesOf Try.func57 (by kernel_rfl) rfl; rfl; rfl; exact (HF'.out); (exact atks); rintro v' H' ⟨rfl, rfl⟩; all_goals ((try simp only [List.nil_append]); (refine apk ?_))) | (refine ax1m ?_) | (refine aac ?_; intro ac cc) | (refine ax2m ?_) | (refine ap3 ?_ ?_ <;> first | exact True.intro | intro h))
      clear hb0 hl' HF'
      refine sw_loop (fun gg t H' => ∃ (k : Nat) (v' : Value), gg = n + 1 - k ∧ k ≤ n ∧ Takes [pt b (.cells [.pointer (some ⟨g, 0, none⟩)].toArray 90 (0, 0)), pt g (.cells [v', .bool false].toArray 66 (0, 0)),
          RowC 5 1 v' (l ++ numsOf (xs.take k)).length (u8s (l ++ numsOf (xs.take k)))] H' [] ∧ (t.length = 45 ∧ t[0]? = some (.pointer (some ⟨g, 0, none⟩)) ∧ t[1]? = some (.slice a n c) ∧ t[2]? = some (.pointer (some ⟨b, 0, none⟩)) ∧ t[25]? = some (.slice a n c) ∧ t[26]? = some (.int .i64 n) ∧ t[27]? = some (.int .i64 k))) (n + 1)
        ⟨0, v, rfl, Nat.zero_le _, by simp [numsOf]; (exact atks), rfl, rfl, rfl, rfl, rfl, rfl, rfl⟩ ?_
      rintro gg t H' ⟨k, v', rfl, hk, hp, hlen, e0, e1, e2, e25, e26, e27⟩
      revert e0 e1 e2 e25 e26 e27; revert t; refine all_len (n := 45) ?_; intro u0 u1 u2 u3 u4 u5 u6 u7 u8 u9 u10 u11 u12 u13 u14 u15 u16 u17 u18 u19 u20 u21 u22 u23 u24 u25 u26 u27 u28 u29 u30 u31 u32 u33 u34 u35 u36 u37 u38 u39 u40 u41 u42 u43 u44 e0 e1 e2 e25 e26 e27; cases e0; cases e1; cases e2; cases e25; cases e26; cases e27
      refine sw_take hp ?_
      clear hp
      by_cases hlt : k < n
      · obtain ⟨b2, off, u, rfl, hu, hc⟩ := HS.out.at1 hlt
        have hkx : k < xs.length := by rw [HX.out]; exact hlt
        rw [ints_get hkx] at hu
        obtain rfl := Option.some.inj hu
        obtain ⟨m, hm, hmx⟩ : ∃ m : Nat, xs[k] = (m : Int) ∧ m ≤ maxNum := by
          have h2 := List.any_eq_false.1 HQ.out xs[k] (List.getElem_mem hkx)
          simp [badNum] at h2
          exact ⟨xs[k].toNat, by omega, by unfold maxNum; omega⟩
        have htk : numsOf (xs.take (k + 1)) = numsOf (xs.take k) ++ septs m := by rw [List.take_succ_eq_append_getElem hkx, hm]; simp [numsOf]
        have hlen : (l ++ numsOf (xs.take k)).length + 6 ≤ 70000000000000 := by
          have h1 := numsOf_len (xs := xs) (fun i hi => by
            have h2 := List.any_eq_false.1 HQ.out xs[i] (List.getElem_mem hi)
            simp [badNum] at h2
            exact ⟨xs[i].toNat, by omega, by unfold maxNum; omega⟩) k
          have h3 := HL.out
          rw [List.length_append]; omega
        rw [hm] at hc
        have hc' := hc
        have HMX := hid hmx
        have HTK := hid htk
        have HLEN := hid hlen
        clear hu hm hmx htk hlen hc
        have hc := fun H => hc' H
        have HC := hid hc'
        clear hc hc'
        obtain ⟨l2, hl2⟩ : ∃ l2, l ++ numsOf (xs.take k) = l2 := ⟨_, rfl⟩
        rw [hl2] at HLEN ⊢
        have HL2 := hid hl2
        clear hl2
        have hc := HC.out [pt b (.cells [.pointer (some ⟨g, 0, none⟩)].toArray 90 (0, 0)), pt g (.cells [v', .bool false].toArray 66 (0, 0)), RowC 5 1 v' l2.length (u8s l2)]
        repeat' (first | (refine ax0m ?_) | (refine abb ?_; intro b) | (with_reducible refine tr_two ?_ ?_) | ((with_reducible apply kx_call (f := 58) (cap := [])); exact goesOf Try.func58 (by kernel_rfl) rfl; rfl; rfl; exact (septets_any _ _); (exact atks); rintro v' H' ⟨b3, rfl, rfl⟩; all_goals ((try simp only [List.cons_append, List.nil_append]); (refine apk ?_))) | (refine ax1m ?_) | (refine aac ?_; intro ac cc) | (refine ax2m ?_) | (refine ap3 ?_ ?_ <;> first | exact True.intro | intro h))
        clear hc
        have hs6 := septs_len6 HMX.out
        refine sw_range rfl (goesOf Try.func78 (by kernel_rfl) rfl) (septets_seq r m HMX.out b3) (by (exact atks)) (fun _ => rfl)
          (fun j H => ∃ v', H = [pt b (.cells [.pointer (some ⟨g, 0, none⟩)].toArray 90 (0, 0)), pt g (.cells [v', .bool false].toArray 66 (0, 0)), RowC 5 1 v' (l2 ++ (septs m).take j).length (u8s (l2 ++ (septs m).take j))])
          (fun _ _ _ => False) ⟨v', by simp⟩ ?_ ?_ (fun _ _ _ _ h => h.elim)
        · rintro k3 j hj H ⟨v3, rfl⟩
          obtain ⟨w, hw⟩ : ∃ w, (septs m)[j] = w := ⟨_, rfl⟩
          rw [hw, show u8v w = [.int .u8 w.toNat] from rfl, pars1]
          have htj : (septs m).take (j + 1) = (septs m).take j ++ [w] := by rw [List.take_succ_eq_append_getElem hj, hw]
          have hl3 : (l2 ++ (septs m).take j).length + 1 ≤ 70000000000000 := by
            have := HLEN.out
            simp; omega
          have HTJ := hid htj
          have HL3 := hid hl3
          clear htj hl3 hw
          obtain ⟨l3, hl3⟩ : ∃ l3, l2 ++ (septs m).take j = l3 := ⟨_, rfl⟩
          rw [hl3] at HL3 ⊢
          have HL4 := hid hl3
          clear hl3
          (refine apk ?_)
          repeat' (first | (refine ax0m ?_) | (refine abb ?_; intro b) | (with_reducible refine tr_two ?_ ?_) | (refine ax1m ?_) | (refine aac ?_; intro ac cc) | (refine ax2m ?_) | (refine ap3 ?_ ?_ <;> first | exact True.intro | intro h))
          ((with_reducible apply sw_draw (id := 9) 8 [(0, true), (1, true), (2, true), (3, true), (4, true), (5, true), (6, false), (7, false)] [(8, false), (9, false), (10, false)] [(b, .cells [.pointer (some ⟨g, 0, none⟩)].toArray 90 (0, 0)), (g, .cells [v3, .bool false].toArray 66 (0, 0))]); kernel_rfl; (exact atks); kernel_rfl; intro r' hl')
          have hb0 := hl'.2 _ List.mem_cons_self
          have hb1 := hl'.2 _ (List.mem_cons_of_mem _ List.mem_cons_self)
          repeat' (first | (refine ax0m ?_) | (refine abb ?_; intro b) | (with_reducible refine tr_two ?_ ?_) | ((with_reducible apply kx_bs1 (E := 5) (z := .int .u8 0) (by_ := 1)); kernel_rfl; kernel_rfl; rfl; rfl; rfl; intro bz; (refine apk ?_)) | ((with_reducible apply kx_append1 (E := 5) (z := .int .u8 0) (by_ := 1)); kernel_rfl; kernel_rfl; rfl; rfl; rfl; (exact atk); (exact atk); rfl; (have := HL3.out; omega); intro a' c'; (refine apk ?_)) | (refine ax1m ?_) | (refine aac ?_; intro ac cc) | (refine ax2m ?_) | (refine ap3 ?_ ?_ <;> first | exact True.intro | intro h))
          refine ⟨.slice a' (l3.length + 1) c', ?_⟩
          rw [HTJ.out, ← List.append_assoc, HL4.out]
          simp [u8s]
        · rintro H ⟨v3, rfl⟩
          repeat' (first | (refine ax0m ?_) | (refine abb ?_; intro b) | (with_reducible refine tr_two ?_ ?_) | (refine ax1m ?_) | (refine aac ?_; intro ac cc) | (refine ax2m ?_) | (refine ap3 ?_ ?_ <;> first | exact True.intro | intro h))
          refine ⟨_, by omega, k + 1, v3, rfl, by omega, ?_, rfl, rfl, rfl, rfl, rfl, rfl, rfl⟩
          rw [List.take_length, HTK.out, ← List.append_assoc, HL2.out, List.nil_append]
          (exact atks)
      · rw [List.take_of_length_le (by rw [HX.out]; omega)]
        repeat' (first | (refine ax0m ?_) | (refine abb ?_; intro b) | (with_reducible refine tr_two ?_ ?_) | (refine ax1m ?_) | (refine aac ?_; intro ac cc) | (refine ax2m ?_) | (refine ap3 ?_ ?_ <;> first | exact True.intro | intro h))
        ((with_reducible apply fp_end); exact res_0 rfl)
        exact HR.out _ [pt b _] _ _ (by (exact atks)) ⟨_, _, rfl, rfl⟩
    · refine fn_of_sw Try.func32 rfl _ rfl ?_; simp only [Try.ntmps32, List.length_cons, List.length_nil, Nat.reduceAdd, Nat.reduceSub, List.replicate_succ, List.replicate_zero, List.nil_append, List.cons_append]
      repeat' (first | (refine ax0m ?_) | (refine abb ?_; intro b) | (with_reducible refine tr_two ?_ ?_) | (refine ax1m ?_) | (refine aac ?_; intro ac cc) | (refine ax2m ?_) | (refine ap3 ?_ ?_ <;> first | exact True.intro | intro h))
      ((with_reducible apply sw_draw (id := 2) 10 [(0, true), (1, true), (2, true), (3, true), (4, false), (5, true), (6, true), (7, false), (8, true), (9, true)] [(10, false), (11, false), (12, false)] [(b, .cells [.pointer (some ⟨g, 0, none⟩)].toArray 90 (0, 0))]); kernel_rfl; (exact atks); kernel_rfl; intro r' hl')
      have hb0 := hl'.2 _ List.mem_cons_self
      have HF' := hid (HF.out r' hl'.1)
      repeat' (first | (refine ax0m ?_) | (refine abb ?_; intro b) | (with_reducible refine tr_two ?_ ?_) | ((with_reducible apply kx_call (f := 57) (cap := [])); exact goesOf Try.func57 (by kernel_rfl) rfl; rfl; rfl; exact (HF'.out); (exact atks); rintro v' H' ⟨rfl, rfl⟩; all_goals ((try simp only [List.nil_append]); (refine apk ?_))) | (refine ax1m ?_) | (refine aac ?_; intro ac cc) | (refine ax2m ?_) | (refine ap3 ?_ ?_ <;> first | exact True.intro | intro h))
      ((with_reducible apply fp_ret); exact res_0 rfl)
      exact HR.out _ [pt b _] _ _ (by (exact atks)) ⟨_, _, rfl, rfl⟩
  · refine fn_of_sw Try.func32 rfl _ rfl ?_; simp only [Try.ntmps32, List.length_cons, List.length_nil, Nat.reduceAdd, Nat.reduceSub, List.replicate_succ, List.replicate_zero, List.nil_append, List.cons_append]
    repeat' (first | (refine ax0m ?_) | (refine abb ?_; intro b) | (with_reducible refine tr_two ?_ ?_) | (refine ax1m ?_) | (refine aac ?_; intro ac cc) | (refine ax2m ?_) | (refine ap3 ?_ ?_ <;> first | exact True.intro | intro h))
    ((with_reducible apply sw_draw (id := 2) 10 [(0, true), (1, true), (2, true), (3, true), (4, false), (5, true), (6, true), (7, false), (8, true), (9, true)] [(10, false), (11, false), (12, false)] [(b, .cells [.pointer (some ⟨g, 0, none⟩)].toArray 90 (0, 0))]); kernel_rfl; (exact atks); kernel_rfl; intro r' hl')
    have hb0 := hl'.2 _ List.mem_cons_self
    have HF' := hid (HF.out r' hl'.1)
    repeat' (first | (refine ax0m ?_) | (refine abb ?_; intro b) | (with_reducible refine tr_two ?_ ?_) | ((with_reducible apply kx_call (f := 57) (cap := [])); exact goesOf Try.func57 (by kernel_rfl) rfl; rfl; rfl; exact (HF'.out); (exact atks); rintro v' H' ⟨rfl, rfl⟩; all_goals ((try simp only [List.cons_append, List.nil_append]); (refine apk ?_))) | (refine ax1m ?_) | (refine aac ?_; intro ac cc) | (refine ax2m ?_) | (refine ap3 ?_ ?_ <;> first | exact True.intro | intro h))
    ((with_reducible apply fp_ret); exact res_0 rfl)
    exact HR.out _ [pt b _] _ _ (by (exact atks)) ⟨_, _, rfl, rfl⟩
end Go.Proofs.Ytkbajhiahpkgiaa
