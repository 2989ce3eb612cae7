
/- wire.Writer.Text, Bytes: their contracts. wire.Writer.Text at one text: its contract. -/
import Derived.Test.YtohpeoakdgckfaaGreatWd
namespace Go.Proofs.YtohpeoakdgckfaaGreat
open Go.RowKit Sx

attribute [local go_sem] Oper.semAt_some

def textsOf (ts : List (List UInt8)) : List UInt8 := ts.flatMap texts

/-- One number. -/
theorem number1_any (r : Hp) (g : Nat) (v : Value) (l : List UInt8) (nv : Value) (m : Nat) (hs : Sl r 1 nv 1 [.int .i64 m]) (hm : m ≤ maxNum) (hl : l.length ≤ 60000000000000) :
    Tri Tryz.prog r 81 [.pointer (some ⟨g, 0, none⟩), nv] [pt g (wri v false), U8R v l] fun _ H => ∃ v', H = [pt g (wri v' false), U8R v' (l ++ septs m)] := by
  refine (number_any r g v false l nv 1 [(m : Int)] hs (by omega)).mono ?_
  rintro w H ⟨v', l', rfl, rfl⟩
  have hb : [(m : Int)].any badNum = false := by unfold maxNum at hm; simp [badNum]; omega
  rw [hb]
  exact ⟨v', by simp [numsOf, U8R]⟩

set_option maxRecDepth 10000 in
set_option maxHeartbeats 1000000 in
theorem wtext_any (r : Hp) (g : Nat) (v : Value) (l : List UInt8) (tv : Value) (ts : List (Value × List UInt8)) (hs : Sl r 1 tv ts.length (ts.map (·.1))) (ht : ∀ x ∈ ts, U8S r x.1 x.2 ∧ x.2.length ≤ 1000000) (hl : l.length + (textsOf (ts.map (·.2))).length ≤ 60000000000000) :
    Tri Tryz.prog r 85 [.pointer (some ⟨g, 0, none⟩), tv] [pt g (wri v false), U8R v l] fun _ H => ∃ v', H = [pt g (wri v' false), U8R v' (l ++ textsOf (ts.map (·.2)))] := by
  refine Tri.free fun R HR => ?_
  obtain ⟨n, hn⟩ : ∃ n, ts.length = n := ⟨_, rfl⟩
  rw [hn] at hs
  have HL := hid hl
  have HS := hid hs
  have HT := hid ht
  have HN := hid hn
  obtain ⟨a, c, rfl⟩ := hs.form
  have hnm := hs.2.1
  unfold maxLen at hnm
  clear hl hs ht hn
  unfold wri at HR ⊢
  refine fn_of_sw Tryz.func85 rfl _ rfl ?_; refine aen Tryz.ntmps85 ?_
  repeat' (first | refine ax0m ?_ | (refine abb ?_; intro b) | refine ax1m ?_ | (refine aac ?_; intro ac cc) | refine ax2m ?_ | (refine ap3 ?_ ?_ <;> try intro h) | apply True.intro)
  refine sw_loop (fun gg t H' => ∃ (k : Nat) (v' : Value), gg = n + 1 - k ∧ k ≤ n ∧ (∃ G, Takes [pt g (.cells [v', .bool false].toArray 70 (0, 0)), U8R v' (l ++ textsOf ((ts.take k).map (·.2)))] H' G) ∧
      (t.length = 29 ∧ t[0]? = some (.pointer (some ⟨g, 0, none⟩)) ∧ t[6]? = some (.slice a n c) ∧ t[7]? = some (.int .i64 n) ∧ t[8]? = some (.int .i64 k))) (n + 1)
    ⟨0, v, rfl, Nat.zero_le _, ⟨[], by simp [textsOf]; (exact atks)⟩, rfl, rfl, rfl, rfl, rfl⟩ ?_
  rintro gg t H' ⟨k, v', rfl, hk, ⟨G, hp⟩, hlen, e0, e6, e7, e8⟩
  revert e0 e6 e7 e8; revert t; refine all_len (n := 29) ?_; intro u0 u1 u2 u3 u4 u5 u6 u7 u8 u9 u10 u11 u12 u13 u14 u15 u16 u17 u18 u19 u20 u21 u22 u23 u24 u25 u26 u27 u28 e0 e6 e7 e8; cases e0; cases e6; cases e7; cases e8
  refine sw_takeG hp ?_
  clear hp
  by_cases hlt : k < n
  · have hkx : k < ts.length := by rw [HN.out]; exact hlt
    obtain ⟨b2, off, u, rfl, hu, hc⟩ := HS.out.at1 hlt
    obtain ⟨⟨xv, xl⟩, hx⟩ : ∃ x, ts[k] = x := ⟨_, rfl⟩
    obtain rfl : xv = u := by rw [List.getElem?_map, List.getElem?_eq_getElem hkx, hx] at hu; simpa using hu
    obtain ⟨hxs, hxl⟩ := HT.out (xv, xl) (hx ▸ List.getElem_mem hkx)
    dsimp only at hxs hxl
    have htk : textsOf ((ts.take (k + 1)).map (·.2)) = textsOf ((ts.take k).map (·.2)) ++ texts xl := by rw [List.take_succ_eq_append_getElem hkx, hx]; simp [textsOf]
    have hle : (l ++ textsOf ((ts.take k).map (·.2))).length ≤ 60000000000000 := by
      have h1 := HL.out
      have h2 : (textsOf ((ts.take k).map (·.2))).length ≤ (textsOf (ts.map (·.2))).length := by
        have h3 : textsOf (ts.map (·.2)) = textsOf ((ts.take k).map (·.2)) ++ textsOf ((ts.drop k).map (·.2)) := by
          unfold textsOf; rw [← List.flatMap_append, ← List.map_append, List.take_append_drop]
        rw [h3, List.length_append]; omega
      rw [List.length_append]; omega
    have HTK := hid htk
    have HLE := hid hle
    have HX := hid hxs
    have HXL := hid hxl
    clear htk hle hxs hu hx
    obtain ⟨ax, cx, rfl⟩ := HX.out.form
    obtain ⟨l2, hl2⟩ : ∃ l2, l ++ textsOf ((ts.take k).map (·.2)) = l2 := ⟨_, rfl⟩
    rw [hl2] at HLE ⊢
    have HL2 := hid hl2
    clear hl2
    have hc := hc [pt g (.cells [v', .bool false].toArray 70 (0, 0)), U8R v' l2]
    repeat' (first | refine ax0m ?_ | (refine abb ?_; intro b) | ((with_reducible apply kx_bs1 (E := 3) (z := .int .i64 0) (by_ := 8)); kernel_rfl; kernel_rfl; rfl; rfl; rfl; intro bz; (refine apk ?_)) | ((with_reducible apply kx_lend [(bz, .cells [.int .i64 xl.length].toArray 3 (0, 0))]); (exact atks); intro r' hl'; refine acl Tryz.func81 ?_; refine acr (number1_any r' g v' l2 _ xl.length (Sl.lit (hl'.2 _ List.mem_cons_self) rfl (by simp [maxLen])) (Nat.le_trans HXL.out (by simp [maxNum])) HLE.out) ?_; rintro v' H' ⟨v5, rfl⟩; all_goals refine apm ?_) | refine ax1m ?_ | (refine aac ?_; intro ac cc) | refine ax2m ?_ | (refine ap3 ?_ ?_ <;> try intro h) | apply True.intro)
    have hu6 := septs_len6 (n := xl.length) (Nat.le_trans HXL.out (by simp [maxNum]))
    by_cases h0 : xl = []
    · subst h0
      repeat' (first | refine ax0m ?_ | (refine abb ?_; intro b) | ((with_reducible apply kx_append0 (E := 5) (z := .int .u8 0) (sz := 1) (by_ := 1)); kernel_rfl; kernel_rfl; rfl; rfl; (exact atk); intro a' c' e; subst e; (refine apk ?_)) | refine ax1m ?_ | (refine aac ?_; intro ac cc) | refine ax2m ?_ | (refine ap3 ?_ ?_ <;> try intro h) | apply True.intro)
      exact ⟨_, by omega, k + 1, _, rfl, by omega, ⟨_, by rw [HTK.out, ← List.append_assoc, HL2.out]; simp only [texts, List.append_nil]; (exact atks)⟩, rfl, rfl, rfl, rfl, rfl⟩
    · obtain ⟨b6, off6, _, rfl, _, _⟩ := Sl.at1 HX.out (k := 0) (List.length_pos_iff.2 h0)
      repeat' (first | refine ax0m ?_ | (refine abb ?_; intro b) | ((with_reducible apply kx_append (E := 5) (z := .int .u8 0) (sz := 1) (by_ := 1) (news := u8s xl)); kernel_rfl; kernel_rfl; rfl; rfl; rfl; rfl; (exact atk); exact (by simp [u8s]); exact Sl.news HX.out _; exact u8s_one _; (have := HLE.out; have := HXL.out; unfold maxLen; simp; omega); (have := HLE.out; have := HXL.out; simp; omega); intro a' c'; (refine apk ?_)) | refine ax1m ?_ | (refine aac ?_; intro ac cc) | refine ax2m ?_ | (refine ap3 ?_ ?_ <;> try intro h) | apply True.intro)
      exact ⟨_, by omega, k + 1, _, rfl, by omega, ⟨_, by rw [HTK.out, ← List.append_assoc, HL2.out]; simp only [texts, U8R, u8s, List.map_append, List.length_append, List.append_assoc, Nat.add_assoc]; (exact atks)⟩, rfl, rfl, rfl, rfl, rfl⟩
  · rw [List.take_of_length_le (by rw [HN.out]; omega)]
    repeat' (first | refine ax0m ?_ | (refine abb ?_; intro b) | refine ax1m ?_ | (refine aac ?_; intro ac cc) | refine ax2m ?_ | (refine ap3 ?_ ?_ <;> try intro h) | apply True.intro)
    ((with_reducible apply fp_end); exact res_0 rfl)
    exact HR.out _ [] _ _ (by (exact atks)) ⟨_, rfl⟩

set_option maxHeartbeats 400000 in
theorem wbytes_any (r : Hp) (g : Nat) (v : Value) (l : List UInt8) (hl : l.length ≤ 60000000000000) :
    Tri Tryz.prog r 39 [.pointer (some ⟨g, 0, none⟩)] [pt g (wri v false), U8R v l] fun w H => ∃ a c, w = .slice a l.length c ∧ H = [U8R w l] := by
  refine Tri.free fun R HR => ?_
  unfold wri
  refine fn_of_sw Tryz.func39 rfl _ rfl ?_; refine aen Tryz.ntmps39 ?_
  repeat' (first | refine ax0m ?_ | (refine abb ?_; intro b) | ((with_reducible apply kx_give (A := U8R v l)); (exact atk); intro r' gg hr hgr hgg; (with_reducible apply kx_call (f := 73) (cap := [])); exact goesOf Tryz.func73 (by kernel_rfl) rfl; rfl; rfl; exact (clone_any r' v l (RowC.sl hgg hgr) (by omega)); (exact atks); rintro v' H' ⟨a', c', rfl, rfl⟩; all_goals ((try simp only [List.cons_append, List.nil_append]); (refine apk ?_))) | refine ax1m ?_ | (refine aac ?_; intro ac cc) | refine ax2m ?_ | (refine ap3 ?_ ?_ <;> try intro h) | apply True.intro)
  ((with_reducible apply fp_ret); exact res_1 rfl rfl)
  exact HR.out _ [pt g _] _ _ (by (exact atks)) ⟨_, _, rfl, rfl⟩
end Go.Proofs.YtohpeoakdgckfaaGreat

namespace Go.Proofs.YtohpeoakdgckfaaGreat
open Go.RowKit Sx

theorem wtext1_any (r : Hp) (g : Nat) (v : Value) (l : List UInt8) (tv pv : Value) (p : List UInt8) (hs : Sl r 1 tv 1 [pv]) (ht : U8S r pv p) (hp : p.length ≤ 1000000) (hl : l.length + (texts p).length ≤ 60000000000000) :
    Tri Tryz.prog r 85 [.pointer (some ⟨g, 0, none⟩), tv] [pt g (wri v false), U8R v l] fun _ H => ∃ v', H = [pt g (wri v' false), U8R v' (l ++ texts p)] := by
  refine (wtext_any r g v l tv [(pv, p)] hs (by simp; exact ⟨ht, hp⟩) (by simpa [textsOf] using hl)).mono ?_
  rintro w H ⟨v', rfl⟩
  exact ⟨v', by simp [textsOf]⟩
end Go.Proofs.YtohpeoakdgckfaaGreat
