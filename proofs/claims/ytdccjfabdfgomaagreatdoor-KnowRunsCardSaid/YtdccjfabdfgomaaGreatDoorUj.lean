
/- slices.IndexFunc, ContainsFunc over texts and queries; query.gram and its kin. -/
import Derived.Test.YtdccjfabdfgomaaGreatDoorUi
namespace Go.Proofs.YtdccjfabdfgomaaGreatDoor
open Go.RowKit Sx

def vTx (x : Tx) : Value := .string (bs x)
theorem rd_one {r : Hp} {H : List Ch} {b off k : Nat} {v : Value} (h : RdN r H ⟨b, off + k * 1, none⟩ [v].toArray) : Rd1 r H ⟨b, off + k, none⟩ v := by
  have := h 0 (by simp)
  simpa [Addr.add] using this
set_option maxHeartbeats 400000 in
theorem indexStr_any (r : Hp) (v : Value) (xs : List Tx) (fv : Value) (gf : FuncId) (cap : List Value) (H : List Ch) (q : Tx → Bool) (hv : Els r 1 encTx v xs) (hfv : fv = .func (.func gf) #[] cap.toArray) (hg : GoesTo Tryz.prog gf)
    (hp : ∀ k (hk : k < xs.length), Tri Tryz.prog r gf (vTx xs[k] :: cap) H fun w H' => w = .bool (q xs[k]) ∧ H' = H) :
    Tri Tryz.prog r 87 [v, fv] H fun w H' => w = .int .i64 (idx (xs.findIdx? q)) ∧ H' = H := by
  obtain ⟨a, c, rfl⟩ := hv.form
  have hn := hv.2.2.1
  unfold maxLen at hn
  obtain ⟨n, hln⟩ : ∃ n, xs.length = n := ⟨_, rfl⟩
  rw [hln] at hn hv ⊢
  have HLN := hid hln
  clear hln
  refine fn_of_sw Tryz.func87 rfl _ rfl ?_; refine aen Tryz.ntmps87 ?_
  repeat' (first | refine ax0m ?_ | (refine abb ?_; intro b) | refine ax1m ?_ | (refine aac ?_; intro ac cc) | refine ax2m ?_ | (refine ap3 ?_ ?_ <;> try intro h) | apply True.intro)
  refine sw_loop (fun g t H' => ∃ k : Nat, g = n + 1 - k ∧ k ≤ n ∧ (xs.take k).findIdx? q = none ∧ H' = H ∧ (t.length = 19 ∧ t[0]? = some (.slice a n c) ∧ t[1]? = some (fv) ∧ t[6]? = some (.slice a n c) ∧ t[7]? = some (.int .i64 n) ∧ t[8]? = some (.int .i64 k))) (n + 1) ⟨0, rfl, Nat.zero_le _, by simp, rfl, rfl, rfl, rfl, rfl, rfl, rfl⟩ ?_
  rintro g t H' ⟨k, rfl, hk, hall, rfl, hlen, e0, e1, e6, e7, e8⟩
  revert e0 e1 e6 e7 e8; revert t; refine all_len (n := 19) ?_; intro u0 u1 u2 u3 u4 u5 u6 u7 u8 u9 u10 u11 u12 u13 u14 u15 u16 u17 u18 e0 e1 e6 e7 e8; cases e0; cases e1; cases e6; cases e7; cases e8
  have HA := hid hall
  clear hall
  by_cases hlt : k < n
  · have hkx : k < xs.length := by rw [HLN.out]; exact hlt
    obtain ⟨b, off, rfl, hc⟩ := hv.at hkx HLN.out
    obtain ⟨x, hx⟩ : ∃ x, xs[k] = x := ⟨_, rfl⟩
    have hq := hp k hkx
    rw [hx] at hq hc
    have hc' := hc r H' (fun _ _ h => h)
    obtain ⟨y, hy⟩ : ∃ y, q x = y := ⟨_, rfl⟩
    rw [hy] at hq
    have HC := hid hq
    have HX := hid hx
    have HY := hid hy
    clear hc hp hq hx hy
    subst hfv
    unfold encTx at hc'
    have hc' := rd_one hc'
    unfold vTx at HC
    (try unfold encTx at HC)
    cases y
    · repeat' (first | refine ax0m ?_ | (refine abb ?_; intro b) | (with_reducible apply kx_call (f := gf) (cap := cap)); exact hg; rfl; rfl; exact HC.out; exact Takes.all; rintro v' H1 ⟨rfl, rfl⟩; rw [List.append_nil]; (refine apk ?_) | refine ax1m ?_ | (refine aac ?_; intro ac cc) | refine ax2m ?_ | (refine ap3 ?_ ?_ <;> try intro h) | apply True.intro)
      refine ⟨_, by omega, k + 1, rfl, by omega, ?_, rfl, rfl, rfl, rfl, rfl, rfl, rfl⟩
      rw [find_app hkx HA.out, HX.out, HY.out]; rfl
    · repeat' (first | refine ax0m ?_ | (refine abb ?_; intro b) | (with_reducible apply kx_call (f := gf) (cap := cap)); exact hg; rfl; rfl; exact HC.out; exact Takes.all; rintro v' H1 ⟨rfl, rfl⟩; rw [List.append_nil]; (refine apk ?_) | refine ax1m ?_ | (refine aac ?_; intro ac cc) | refine ax2m ?_ | (refine ap3 ?_ ?_ <;> try intro h) | apply True.intro)
      ((with_reducible apply fp_ret); exact res_1 rfl rfl)
      exact ⟨by rw [find_fst hkx HA.out (by rw [HX.out]; exact HY.out)]; rfl, rfl⟩
  · rw [List.take_of_length_le (by rw [HLN.out]; omega)] at HA
    repeat' (first | refine ax0m ?_ | (refine abb ?_; intro b) | refine ax1m ?_ | (refine aac ?_; intro ac cc) | refine ax2m ?_ | (refine ap3 ?_ ?_ <;> try intro h) | apply True.intro)
    ((with_reducible apply fp_ret); exact res_1 rfl rfl)
    exact ⟨by rw [HA.out]; rfl, rfl⟩
set_option maxHeartbeats 400000 in
theorem contStr_any (r : Hp) (v : Value) (xs : List Tx) (gf : FuncId) (cap : List Value) (H : List Ch) (q : Tx → Bool) (hv : Els r 1 encTx v xs) (hg : GoesTo Tryz.prog gf)
    (hp : ∀ k (hk : k < xs.length), Tri Tryz.prog r gf (vTx xs[k] :: cap) H fun w H' => w = .bool (q xs[k]) ∧ H' = H) :
    Tri Tryz.prog r 65 [v, .func (.func gf) #[] cap.toArray] H fun w H' => w = .bool (xs.any q) ∧ H' = H := by
  have hi := indexStr_any r v xs _ gf cap H q hv rfl hg hp
  obtain ⟨a, c, rfl⟩ := hv.form
  have e : xs.any q = (xs.findIdx? q).isSome := by rw [List.findIdx?_isSome]
  rw [e]
  obtain ⟨o, ho⟩ : ∃ o, xs.findIdx? q = o := ⟨_, rfl⟩
  rw [ho] at hi ⊢
  have HC := hid hi
  clear hp hv hi e ho
  cases o
  all_goals
    refine fn_of_sw Tryz.func65 rfl _ rfl ?_; refine aen Tryz.ntmps65 ?_
    repeat' (first | refine ax0m ?_ | (refine abb ?_; intro b) | (with_reducible apply kx_call (f := 87) (cap := [])); exact goesOf Tryz.func87 (by kernel_rfl) rfl; rfl; rfl; exact HC.out; exact Takes.all; rintro v' H1 ⟨rfl, rfl⟩; all_goals (rw [List.append_nil]; unfold idx; (refine apk ?_)) | refine ax1m ?_ | (refine aac ?_; intro ac cc) | refine ax2m ?_ | (refine ap3 ?_ ?_ <;> try intro h) | apply True.intro)
    ((with_reducible apply fp_ret); exact res_1 rfl rfl)
    first
    | exact ⟨rfl, rfl⟩
    | exact ⟨by congr 1; simp, rfl⟩
set_option maxHeartbeats 400000 in
theorem gram_any (r : Hp) (g : Tx) : Tri Tryz.prog r 67 [.string (bs g)] [] fun w H => w = .bool (decide (g.length = 3)) ∧ H = [] := by
  refine Tri.free2 fun R HR => ?_
  by_cases h : g.length = 3
  · rw [decide_eq_true h] at HR
    refine fn_of_sw Tryz.func67 rfl _ rfl ?_; refine aen Tryz.ntmps67 ?_
    repeat' (first | (exfalso; first | contradiction | omega) | refine aw0 ?_ | (refine ap2 ?_ ?_ <;> try intro h) | refine aw1 ?_ | (refine abx ?_; intro bb) | (refine abz ?_; intro bz) | (refine ahv ?_; intro v' hv') | (refine aac ?_; intro ac cc) | refine aw2 ?_ | (refine ap4 ?_ ?_ <;> try intro h) | apply True.intro)
    ((with_reducible apply fp_ret); exact res_1 rfl rfl)
    exact HR.out _ _ _ [] Takes.all ⟨by first | rfl | (congr 1; simp; omega), rfl⟩
  · rw [decide_eq_false h] at HR
    refine fn_of_sw Tryz.func67 rfl _ rfl ?_; refine aen Tryz.ntmps67 ?_
    repeat' (first | (exfalso; first | contradiction | omega) | refine aw0 ?_ | (refine ap2 ?_ ?_ <;> try intro h) | refine aw1 ?_ | (refine abx ?_; intro bb) | (refine abz ?_; intro bz) | (refine ahv ?_; intro v' hv') | (refine aac ?_; intro ac cc) | refine aw2 ?_ | (refine ap4 ?_ ?_ <;> try intro h) | apply True.intro)
    ((with_reducible apply fp_ret); exact res_1 rfl rfl)
    exact HR.out _ _ _ [] Takes.all ⟨by first | rfl | (congr 1; simp; omega), rfl⟩
set_option maxHeartbeats 400000 in
theorem ggram_any (r : Hp) (g : Tx) : Tri Tryz.prog r 66 [.string (bs g)] [] fun w H => w = .bool (!decide (g.length = 3)) ∧ H = [] := by
  refine Tri.free2 fun R HR => ?_
  have hg := gram_any r g
  obtain ⟨b, hb⟩ : ∃ b, decide (g.length = 3) = b := ⟨_, rfl⟩
  rw [hb] at hg HR
  refine fn_of_sw Tryz.func66 rfl _ rfl ?_; refine aen Tryz.ntmps66 ?_
  repeat' (first | (refine acl Tryz.func67 ?_; refine acr (hg) ?_; rintro v' H' ⟨rfl, rfl⟩; all_goals refine apl ?_) | (exfalso; first | contradiction | omega) | refine aw0 ?_ | (refine ap2 ?_ ?_ <;> try intro h) | refine aw1 ?_ | (refine abx ?_; intro bb) | (refine abz ?_; intro bz) | (refine ahv ?_; intro v' hv') | (refine aac ?_; intro ac cc) | refine aw2 ?_ | (refine ap4 ?_ ?_ <;> try intro h) | apply True.intro)
  ((with_reducible apply fp_ret); exact res_1 rfl rfl)
  exact HR.out _ _ _ [] Takes.all ⟨rfl, rfl⟩
end Go.Proofs.YtdccjfabdfgomaaGreatDoor
