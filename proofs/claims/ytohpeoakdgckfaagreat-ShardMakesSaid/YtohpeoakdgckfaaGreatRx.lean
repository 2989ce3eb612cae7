
/- mudlarkref02.Writer: Number, Text, Fixed: their contracts. mudlarkref02.Writer.Number at bytes that may be marked: its contract. -/
import Derived.Test.YtohpeoakdgckfaaGreatWd
import Derived.Test.YtohpeoakdgckfaaGreatKj
import Derived.Test.YtohpeoakdgckfaaGreatTw
namespace Go.Proofs.YtohpeoakdgckfaaGreat
open Go.RowKit Sx

attribute [local go_sem] Oper.semAt_some

def textsOf (ts : List (List UInt8)) : List UInt8 := ts.flatMap texts

/-- One number. -/
theorem number1_any (r : Hp) (g : Nat) (v : Value) (l : List UInt8) (nv : Value) (m : Nat) (hs : Sl r 1 nv 1 [.int .i64 m]) (hm : m ≤ maxNum) (hl : l.length ≤ 60000000000000) :
    Tri Tryz.prog r 81 [.pointer (some ⟨g, 0, none⟩), nv] [pt g (wri v false), U8R v l] fun _ H => ∃ v', H = [pt g (wri v' false), U8R v' (l ++ septs m)] := by
  refine (number_any r g v false l nv 1 [(m : Int)] hs (by omega)).mono ?_
  rintro w H ⟨v', l', rfl, rfl⟩
  have hb : [(m : Int)].any badNum = false := by unfold maxNum at hm; simp [badNum]; omega
  rw [hb]
  exact ⟨v', by simp [numsOf, U8R]⟩

set_option maxRecDepth 10000 in
set_option maxHeartbeats 1000000 in
theorem wtext_any (r : Hp) (g : Nat) (v : Value) (l : List UInt8) (tv : Value) (ts : List (Value × List UInt8)) (hs : Sl r 1 tv ts.length (ts.map (·.1))) (ht : ∀ x ∈ ts, U8S r x.1 x.2 ∧ x.2.length ≤ 1000000) (hl : l.length + (textsOf (ts.map (·.2))).length ≤ 60000000000000) :
    Tri Tryz.prog r 85 [.pointer (some ⟨g, 0, none⟩), tv] [pt g (wri v false), U8R v l] fun _ H => ∃ v', H = [pt g (wri v' false), U8R v' (l ++ textsOf (ts.map (·.2)))] := by
  refine Tri.free fun R HR => ?_
  obtain ⟨n, hn⟩ : ∃ n, ts.length = n := ⟨_, rfl⟩
  rw [hn] at hs
  have HL := hid hl
  have HS := hid hs
  have HT := hid ht
  have HN := hid hn
  obtain ⟨a, c, rfl⟩ := hs.form
  have hnm := hs.2.1
  unfold maxLen at hnm
  clear hl hs ht hn
  unfold wri at HR ⊢
  refine fn_of_sw Tryz.func85 rfl _ rfl ?_; refine aen Tryz.ntmps85 ?_
  repeat' (first | refine ax0m ?_ | (refine abb ?_; intro b) | refine ax1m ?_ | (refine aac ?_; intro ac cc) | refine ax2m ?_ | (refine ap3 ?_ ?_ <;> try intro h) | apply True.intro)
  refine sw_loop (fun gg t H' => ∃ (k : Nat) (v' : Value), gg = n + 1 - k ∧ k ≤ n ∧ (∃ G, Takes [pt g (.cells [v', .bool false].toArray 70 (0, 0)), U8R v' (l ++ textsOf ((ts.take k).map (·.2)))] H' G) ∧
      (t.length = 29 ∧ t[0]? = some (.pointer (some ⟨g, 0, none⟩)) ∧ t[6]? = some (.slice a n c) ∧ t[7]? = some (.int .i64 n) ∧ t[8]? = some (.int .i64 k))) (n + 1)
    ⟨0, v, rfl, Nat.zero_le _, ⟨[], by simp [textsOf]; (exact atks)⟩, rfl, rfl, rfl, rfl, rfl⟩ ?_
  rintro gg t H' ⟨k, v', rfl, hk, ⟨G, hp⟩, hlen, e0, e6, e7, e8⟩
  revert e0 e6 e7 e8; revert t; refine all_len (n := 29) ?_; intro u0 u1 u2 u3 u4 u5 u6 u7 u8 u9 u10 u11 u12 u13 u14 u15 u16 u17 u18 u19 u20 u21 u22 u23 u24 u25 u26 u27 u28 e0 e6 e7 e8; cases e0; cases e6; cases e7; cases e8
  refine sw_takeG hp ?_
  clear hp
  by_cases hlt : k < n
  · have hkx : k < ts.length := by rw [HN.out]; exact hlt
    obtain ⟨b2, off, u, rfl, hu, hc⟩ := HS.out.at1 hlt
    obtain ⟨⟨xv, xl⟩, hx⟩ : ∃ x, ts[k] = x := ⟨_, rfl⟩
    obtain rfl : xv = u := by rw [List.getElem?_map, List.getElem?_eq_getElem hkx, hx] at hu; simpa using hu
    obtain ⟨hxs, hxl⟩ := HT.out (xv, xl) (hx ▸ List.getElem_mem hkx)
    dsimp only at hxs hxl
    have htk : textsOf ((ts.take (k + 1)).map (·.2)) = textsOf ((ts.take k).map (·.2)) ++ texts xl := by rw [List.take_succ_eq_append_getElem hkx, hx]; simp [textsOf]
    have hle : (l ++ textsOf ((ts.take k).map (·.2))).length ≤ 60000000000000 := by
      have h1 := HL.out
      have h2 : (textsOf ((ts.take k).map (·.2))).length ≤ (textsOf (ts.map (·.2))).length := by
        have h3 : textsOf (ts.map (·.2)) = textsOf ((ts.take k).map (·.2)) ++ textsOf ((ts.drop k).map (·.2)) := by
          unfold textsOf; rw [← List.flatMap_append, ← List.map_append, List.take_append_drop]
        rw [h3, List.length_append]; omega
      rw [List.length_append]; omega
    have HTK := hid htk
    have HLE := hid hle
    have HX := hid hxs
    have HXL := hid hxl
    clear htk hle hxs hu hx
    obtain ⟨ax, cx, rfl⟩ := HX.out.form
    obtain ⟨l2, hl2⟩ : ∃ l2, l ++ textsOf ((ts.take k).map (·.2)) = l2 := ⟨_, rfl⟩
    rw [hl2] at HLE ⊢
    have HL2 := hid hl2
    clear hl2
    have hc := hc [pt g (.cells [v', .bool false].toArray 70 (0, 0)), U8R v' l2]
    repeat' (first | refine ax0m ?_ | (refine abb ?_; intro b) | ((with_reducible apply kx_bs1 (E := 3) (z := .int .i64 0) (by_ := 8)); kernel_rfl; kernel_rfl; rfl; rfl; rfl; intro bz; (refine apk ?_)) | ((with_reducible apply kx_lend [(bz, .cells [.int .i64 xl.length].toArray 3 (0, 0))]); (exact atks); intro r' hl'; refine acl Tryz.func81 ?_; refine acr (number1_any r' g v' l2 _ xl.length (Sl.lit (hl'.2 _ List.mem_cons_self) rfl (by simp [maxLen])) (Nat.le_trans HXL.out (by simp [maxNum])) HLE.out) ?_; rintro v' H' ⟨v5, rfl⟩; all_goals refine apm ?_) | refine ax1m ?_ | (refine aac ?_; intro ac cc) | refine ax2m ?_ | (refine ap3 ?_ ?_ <;> try intro h) | apply True.intro)
    have hu6 := septs_len6 (n := xl.length) (Nat.le_trans HXL.out (by simp [maxNum]))
    by_cases h0 : xl = []
    · subst h0
      repeat' (first | refine ax0m ?_ | (refine abb ?_; intro b) | ((with_reducible apply kx_append0 (E := 5) (z := .int .u8 0) (sz := 1) (by_ := 1)); kernel_rfl; kernel_rfl; rfl; rfl; (exact atk); intro a' c' e; subst e; (refine apk ?_)) | refine ax1m ?_ | (refine aac ?_; intro ac cc) | refine ax2m ?_ | (refine ap3 ?_ ?_ <;> try intro h) | apply True.intro)
      exact ⟨_, by omega, k + 1, _, rfl, by omega, ⟨_, by rw [HTK.out, ← List.append_assoc, HL2.out]; simp only [texts, List.append_nil]; (exact atks)⟩, rfl, rfl, rfl, rfl, rfl⟩
    · obtain ⟨b6, off6, _, rfl, _, _⟩ := Sl.at1 HX.out (k := 0) (List.length_pos_iff.2 h0)
      repeat' (first | refine ax0m ?_ | (refine abb ?_; intro b) | ((with_reducible apply kx_append (E := 5) (z := .int .u8 0) (sz := 1) (by_ := 1) (news := u8s xl)); kernel_rfl; kernel_rfl; rfl; rfl; rfl; rfl; (exact atk); exact (by simp [u8s]); exact Sl.news HX.out _; exact u8s_one _; (have := HLE.out; have := HXL.out; unfold maxLen; simp; omega); (have := HLE.out; have := HXL.out; simp; omega); intro a' c'; (refine apk ?_)) | refine ax1m ?_ | (refine aac ?_; intro ac cc) | refine ax2m ?_ | (refine ap3 ?_ ?_ <;> try intro h) | apply True.intro)
      exact ⟨_, by omega, k + 1, _, rfl, by omega, ⟨_, by rw [HTK.out, ← List.append_assoc, HL2.out]; simp only [texts, U8R, u8s, List.map_append, List.length_append, List.append_assoc, Nat.add_assoc]; (exact atks)⟩, rfl, rfl, rfl, rfl, rfl⟩
  · rw [List.take_of_length_le (by rw [HN.out]; omega)]
    repeat' (first | refine ax0m ?_ | (refine abb ?_; intro b) | refine ax1m ?_ | (refine aac ?_; intro ac cc) | refine ax2m ?_ | (refine ap3 ?_ ?_ <;> try intro h) | apply True.intro)
    ((with_reducible apply fp_end); exact res_0 rfl)
    exact HR.out _ [] _ _ (by (exact atks)) ⟨_, rfl⟩

set_option maxHeartbeats 400000 in
theorem wbytes_any (r : Hp) (g : Nat) (v : Value) (l : List UInt8) (hl : l.length ≤ 60000000000000) :
    Tri Tryz.prog r 39 [.pointer (some ⟨g, 0, none⟩)] [pt g (wri v false), U8R v l] fun w H => ∃ a c, w = .slice a l.length c ∧ H = [U8R w l] := by
  refine Tri.free fun R HR => ?_
  unfold wri
  refine fn_of_sw Tryz.func39 rfl _ rfl ?_; refine aen Tryz.ntmps39 ?_
  repeat' (first | refine ax0m ?_ | (refine abb ?_; intro b) | ((with_reducible apply kx_give (A := U8R v l)); (exact atk); intro r' gg hr hgr hgg; (with_reducible apply kx_call (f := 73) (cap := [])); exact goesOf Tryz.func73 (by kernel_rfl) rfl; rfl; rfl; exact (clone_any r' v l (RowC.sl hgg hgr) (by omega)); (exact atks); rintro v' H' ⟨a', c', rfl, rfl⟩; all_goals ((try simp only [List.cons_append, List.nil_append]); (refine apk ?_))) | refine ax1m ?_ | (refine aac ?_; intro ac cc) | refine ax2m ?_ | (refine ap3 ?_ ?_ <;> try intro h) | apply True.intro)
  ((with_reducible apply fp_ret); exact res_1 rfl rfl)
  exact HR.out _ [pt g _] _ _ (by (exact atks)) ⟨_, _, rfl, rfl⟩
end Go.Proofs.YtohpeoakdgckfaaGreat

namespace Go.Proofs.YtohpeoakdgckfaaGreat
open Go.RowKit Sx

theorem wtext1_any (r : Hp) (g : Nat) (v : Value) (l : List UInt8) (tv pv : Value) (p : List UInt8) (hs : Sl r 1 tv 1 [pv]) (ht : U8S r pv p) (hp : p.length ≤ 1000000) (hl : l.length + (texts p).length ≤ 60000000000000) :
    Tri Tryz.prog r 85 [.pointer (some ⟨g, 0, none⟩), tv] [pt g (wri v false), U8R v l] fun _ H => ∃ v', H = [pt g (wri v' false), U8R v' (l ++ texts p)] := by
  refine (wtext_any r g v l tv [(pv, p)] hs (by simp; exact ⟨ht, hp⟩) (by simpa [textsOf] using hl)).mono ?_
  rintro w H ⟨v', rfl⟩
  exact ⟨v', by simp [textsOf]⟩
end Go.Proofs.YtohpeoakdgckfaaGreat

namespace Go.Proofs.YtohpeoakdgckfaaGreat
open Go.RowKit Sx

/-- A reference's writer in block g. -/
abbrev rwr (v : Value) (bad : Bool) : Obj := .cells [v, .bool bad].toArray 85 (0, 0)
theorem u8r_snoc (a : Option Addr) (c : Nat) (l : List UInt8) (b : UInt8) (i : Int) (hi : i = (b.toNat : Nat)) : U8R (.slice a (l.length + 1) c) (l ++ [b]) = RowC 5 1 (.slice a (l.length + 1) c) (l.length + 1) (u8s l ++ [.int .u8 i]) := by
  subst hi
  unfold U8R
  rw [List.length_append]
  simp [u8s]
theorem u8r_app (a : Option Addr) (c : Nat) (l p : List UInt8) : U8R (.slice a (l.length + p.length) c) (l ++ p) = RowC 5 1 (.slice a (l.length + p.length) c) (l.length + p.length) (u8s l ++ u8s p) := by
  unfold U8R
  rw [List.length_append]
  simp [u8s]
theorem u8_lt {n : Nat} (h : n < 256) : ((UInt8.ofNat n).toNat : Nat) = n := by simp; omega
set_option maxRecDepth 10000 in
set_option maxHeartbeats 2000000 in
theorem rwnum_any (r : Hp) (g : Nat) (v : Value) (l : List UInt8) (n : Nat) (hn : n ≤ maxNum) (hl : l.length ≤ 60000000000000) : Tri Tryz.prog r 97 [.pointer (some ⟨g, 0, none⟩), .int .i64 n] [pt g (rwr v false), U8R v l] fun _ H => ∃ v', H = [pt g (rwr v' false), U8R v' (l ++ septs n)] := by
  refine Tri.free2 fun R HR => ?_
  have h6 := septs_len6 hn
  unfold maxNum at hn
  refine fn_of_sw Tryz.func97 rfl _ rfl ?_; refine aen Tryz.ntmps97 ?_
  repeat' (first | refine aw0m ?_ | (refine ap2 ?_ ?_ <;> try intro h) | refine aw1m ?_ | (refine abx ?_; intro bb) | (refine abz ?_; intro bz) | (refine ahv ?_; intro v' hv') | (refine aac ?_; intro ac cc) | refine aw2 ?_ | (refine ap4 ?_ ?_ <;> try intro h) | apply True.intro)
  refine sw_loop (fun gm t H' => ∃ (m : Nat) (p : List UInt8) (w : Value), gm = m + 1 ∧ (m ≤ 1099511627776) ∧ (septs n = p ++ septs m) ∧ (∃ G, Takes [pt g (rwr w false), U8R w (l ++ p)] H' G) ∧ Sls t 41 [(0, .pointer (some ⟨g, 0, none⟩)), (1, .int .i64 m)]) _ ⟨n, [], v, rfl, hn, rfl, ⟨[], by rw [List.append_nil]; (exact atks)⟩, asls⟩ ?_
  rintro gm t H' ⟨m, p, w, rfl, hm, hp1, ⟨G, hp⟩, hs'⟩
  revert t; refine sls_all ?_; iterate 39 intro uu'
  refine sw_takeG hp ?_; clear hp
  have h7 : (l ++ p).length ≤ 60000000000006 := by
    have := congrArg List.length hp1
    rw [List.length_append] at this ⊢
    omega
  by_cases hlt : m < 128
  · repeat' (first | (first | ((with_reducible apply kx_bs1); exact ty_el; exact ty_inf; rfl; rfl; rfl; intro bz; (refine apk ?_)) | ((with_reducible apply kx_bsN); exact ty_el; exact ty_inf; rfl; rfl; rfl; intro bz; (refine apk ?_))) | (first | ((with_reducible apply kx_append1); exact ty_el; exact ty_inf; rfl; rfl; rfl; (exact atk); (exact atk); rfl; (omega); intro a' c'; (refine apk ?_)) | ((with_reducible apply kx_appendN); exact ty_el; exact ty_inf; rfl; rfl; rfl; rfl; (exact atk); (exact atk); rfl; rfl; (omega); intro a' c'; (refine apk ?_))) | refine aw0 ?_ | (refine ap2 ?_ ?_ <;> try intro h) | refine aw1 ?_ | (refine abx ?_; intro bb) | (refine abz ?_; intro bz) | (refine ahv ?_; intro v' hv') | (refine aac ?_; intro ac cc) | refine aw2 ?_ | (refine ap4 ?_ ?_ <;> try intro h) | apply True.intro)
    ((with_reducible apply fp_end); exact res_0 rfl)
    exact HR.out _ _ _ [pt g _, RowC 5 1 _ _ _] (by (exact atks)) ⟨_, by rw [hp1, septs_small hlt, ← List.append_assoc, u8r_snoc _ _ (l ++ p) _ _ (by rw [u8_lt (by omega)])]⟩
  · repeat' (first | (first | ((with_reducible apply kx_bs1); exact ty_el; exact ty_inf; rfl; rfl; rfl; intro bz; (refine apk ?_)) | ((with_reducible apply kx_bsN); exact ty_el; exact ty_inf; rfl; rfl; rfl; intro bz; (refine apk ?_))) | (first | ((with_reducible apply kx_append1); exact ty_el; exact ty_inf; rfl; rfl; rfl; (exact atk); (exact atk); rfl; (omega); intro a' c'; (refine apk ?_)) | ((with_reducible apply kx_appendN); exact ty_el; exact ty_inf; rfl; rfl; rfl; rfl; (exact atk); (exact atk); rfl; rfl; (omega); intro a' c'; (refine apk ?_))) | refine aw0 ?_ | (refine ap2 ?_ ?_ <;> try intro h) | refine aw1 ?_ | (refine abx ?_; intro bb) | (refine abz ?_; intro bz) | (refine ahv ?_; intro v' hv') | (refine aac ?_; intro ac cc) | refine aw2 ?_ | (refine ap4 ?_ ?_ <;> try intro h) | apply True.intro)
    exact ⟨_, by omega, m / 128, p ++ [UInt8.ofNat (m % 128 + 128)], .slice a' ((l ++ p).length + 1) c', rfl, by omega, by rw [hp1, septs_big hlt]; simp, ⟨_, by rw [← List.append_assoc, u8r_snoc _ _ (l ++ p) _ (↑m % 128 + 128) (by rw [u8_lt (by omega)]; omega)]; (exact atks)⟩, asls⟩
set_option maxHeartbeats 1000000 in
theorem rwtext_any (r : Hp) (g : Nat) (v : Value) (l : List UInt8) (pv : Value) (p : List UInt8) (hp : U8S r pv p) (hpl : p.length ≤ 1000000) (hl : l.length ≤ 50000000000000) : Tri Tryz.prog r 65 [.pointer (some ⟨g, 0, none⟩), pv] [pt g (rwr v false), U8R v l] fun _ H => ∃ v', H = [pt g (rwr v' false), U8R v' (l ++ texts p)] := by
  refine Tri.free2 fun R HR => ?_
  have h6 := septs_len6 (n := p.length) (by unfold maxNum; omega)
  refine fn_of_sw Tryz.func65 rfl _ rfl ?_; refine aen Tryz.ntmps65 ?_
  repeat' (first | (refine acl Tryz.func97 ?_; refine acr (rwnum_any r g v l p.length (by unfold maxNum; omega) (by omega)) ?_; rintro v' H' ⟨v1, rfl⟩; all_goals refine apl ?_) | ((with_reducible apply kx_appS (news := u8s p)); exact ty_el; exact ty_inf; rfl; rfl; rfl; rfl; exact hp; (exact atk); exact u8s_one p; (unfold maxLen; rw [List.length_append]; omega); (rw [List.length_append]; omega); intro a' c'; (refine apk ?_)) | refine aw0 ?_ | (refine ap2 ?_ ?_ <;> try intro h) | refine aw1 ?_ | (refine abx ?_; intro bb) | (refine abz ?_; intro bz) | (refine ahv ?_; intro v' hv') | (refine aac ?_; intro ac cc) | refine aw2 ?_ | (refine ap4 ?_ ?_ <;> try intro h) | apply True.intro)
  ((with_reducible apply fp_end); exact res_0 rfl)
  exact HR.out _ _ _ [pt g _, RowC 5 1 _ _ _] (by (exact atks)) ⟨_, by unfold texts; rw [← List.append_assoc, u8r_app]⟩
set_option maxHeartbeats 1000000 in
theorem rwfixed_any (r : Hp) (g : Nat) (v : Value) (l : List UInt8) (n : Nat) (_hn : n < 4294967296) (hl : l.length ≤ 50000000000000) : Tri Tryz.prog r 66 [.pointer (some ⟨g, 0, none⟩), .int .u32 n] [pt g (rwr v false), U8R v l] fun _ H => ∃ v', H = [pt g (rwr v' false), U8R v' (l ++ fixed n)] := by
  refine Tri.free2 fun R HR => ?_
  have hfx : ([.int .u8 (IntKind.u8.wrap n), .int .u8 (IntKind.u8.wrap (n / 2 ^ Int.toNat 8)), .int .u8 (IntKind.u8.wrap (n / 2 ^ Int.toNat 16)), .int .u8 (IntKind.u8.wrap (n / 2 ^ Int.toNat 24))] : List Value) = u8s (fixed n) := by
    simp [u8s, fixed, IntKind.wrap, IntKind.bits, IntKind.signed]
  refine fn_of_sw Tryz.func66 rfl _ rfl ?_; refine aen Tryz.ntmps66 ?_
  repeat' (first | ((with_reducible apply kx_lend [(bz, .cells [.int .u8 (IntKind.u8.wrap n), .int .u8 (IntKind.u8.wrap (n / 2 ^ Int.toNat 8)), .int .u8 (IntKind.u8.wrap (n / 2 ^ Int.toNat 16)), .int .u8 (IntKind.u8.wrap (n / 2 ^ Int.toNat 24))].toArray 5 (0, 0))]); (exact atks); intro r' hl'; (with_reducible apply kx_appS (news := [.int .u8 (IntKind.u8.wrap n), .int .u8 (IntKind.u8.wrap (n / 2 ^ Int.toNat 8)), .int .u8 (IntKind.u8.wrap (n / 2 ^ Int.toNat 16)), .int .u8 (IntKind.u8.wrap (n / 2 ^ Int.toNat 24))])); exact ty_el; exact ty_inf; rfl; rfl; rfl; rfl; exact (Sl.lit (n := 4) (Lent.h1 hl') rfl (by simp [maxLen])); (exact atk); rfl; (unfold maxLen; omega); (omega); intro a' c'; (refine apk ?_)) | refine aw0 ?_ | (refine ap2 ?_ ?_ <;> try intro h) | refine aw1 ?_ | (refine abx ?_; intro bb) | (refine abz ?_; intro bz) | (refine ahv ?_; intro v' hv') | (refine aac ?_; intro ac cc) | refine aw2 ?_ | (refine ap4 ?_ ?_ <;> try intro h) | apply True.intro)
  ((with_reducible apply fp_end); exact res_0 rfl)
  exact HR.out _ _ _ [pt g _, RowC 5 1 _ _ _] (by (exact atks)) ⟨_, by rw [hfx]; exact congrArg (fun x => [pt g (rwr _ false), x]) (u8r_app _ _ l (fixed n)).symm⟩
end Go.Proofs.YtohpeoakdgckfaaGreat

namespace Go.Proofs.YtohpeoakdgckfaaGreat
open Go.RowKit
namespace Sx
section
variable {P : Program} {l : Option Nat} {r : Hp} {Q : Exit → St} {t : List Value} {H : List Ch}
/-- What a row's piece tells of its slice. -/
theorem sw_form {c : Code} {E : TypeId} {sz n : Nat} {v : Value} {xs : List Value} {H1 : List Ch} (ht : Take (RowC E sz v n xs) H H1) (h : (∃ a cap, v = .slice a n cap) → SW P l r c Q t H) : SW P l r c Q t H := fun w g ds ok al => by
  refine h ?_ w g ds ok al
  obtain ⟨x, y, dd, e, hx, hy⟩ := ht.all al
  rcases hx.2 with ⟨rfl, rfl, _⟩ | ⟨_, _, _, rfl, _⟩ <;> exact ⟨_, _, rfl⟩
theorem sw_formM {c : Code} {E : TypeId} {sz n : Nat} {v : Value} {xs : List Value} {H1 : List Ch} (ht : Take (RowM E sz v n xs) H H1) (h : (∃ a cap, v = .slice a n cap) → SW P l r c Q t H) : SW P l r c Q t H := fun w g ds ok al => by
  refine h ?_ w g ds ok al
  obtain ⟨x, y, dd, e, hx, hy⟩ := ht.all al
  rcases hx.2 with ⟨rfl, rfl, _⟩ | ⟨_, _, _, _, rfl, _⟩ <;> exact ⟨_, _, rfl⟩
end
end Sx
open Sx

/-- Bytes that are owned, marked or not. -/
abbrev U8M (v : Value) (l : List UInt8) : Ch := RowM 5 1 v l.length (u8s l)
theorem u8m_snoc (a : Option Addr) (c : Nat) (l : List UInt8) (b : UInt8) (i : Int) (hi : i = (b.toNat : Nat)) : U8M (.slice a (l.length + 1) c) (l ++ [b]) = RowM 5 1 (.slice a (l.length + 1) c) (l.length + 1) (u8s l ++ [.int .u8 i]) := by
  subst hi
  unfold U8M
  rw [List.length_append]
  simp [u8s]
theorem u8m_app (a : Option Addr) (c : Nat) (l p : List UInt8) : U8M (.slice a (l.length + p.length) c) (l ++ p) = RowM 5 1 (.slice a (l.length + p.length) c) (l.length + p.length) (u8s l ++ u8s p) := by
  unfold U8M
  rw [List.length_append]
  simp [u8s]
set_option maxRecDepth 10000 in
set_option maxHeartbeats 2000000 in
theorem rwnumM_any (r : Hp) (g : Nat) (v : Value) (l : List UInt8) (n : Nat) (hn : n ≤ maxNum) (hl : l.length ≤ 60000000000000) : Tri Tryz.prog r 97 [.pointer (some ⟨g, 0, none⟩), .int .i64 n] [pt g (rwr v false), U8M v l] fun _ H => ∃ v', H = [pt g (rwr v' false), U8M v' (l ++ septs n)] := by
  refine Tri.free2 fun R HR => ?_
  have h6 := septs_len6 hn
  unfold maxNum at hn
  refine fn_of_sw Tryz.func97 rfl _ rfl ?_; refine aen Tryz.ntmps97 ?_
  repeat' (first | refine aw0m ?_ | (refine ap2 ?_ ?_ <;> try intro h) | refine aw1m ?_ | (refine abx ?_; intro bb) | (refine abz ?_; intro bz) | (refine ahv ?_; intro v' hv') | (refine aac ?_; intro ac cc) | refine aw2 ?_ | (refine ap4 ?_ ?_ <;> try intro h) | apply True.intro)
  refine sw_loop (fun gm t H' => ∃ (m : Nat) (p : List UInt8) (w : Value), gm = m + 1 ∧ (m ≤ 1099511627776) ∧ (septs n = p ++ septs m) ∧ (∃ G, Takes [pt g (rwr w false), U8M w (l ++ p)] H' G) ∧ Sls t 41 [(0, .pointer (some ⟨g, 0, none⟩)), (1, .int .i64 m)]) _ ⟨n, [], v, rfl, hn, rfl, ⟨[], by rw [List.append_nil]; (exact atks)⟩, asls⟩ ?_
  rintro gm t H' ⟨m, p, w, rfl, hm, hp1, ⟨G, hp⟩, hs'⟩
  revert t; refine sls_all ?_; iterate 39 intro uu'
  refine sw_takeG hp ?_; clear hp
  have h7 : (l ++ p).length ≤ 60000000000006 := by
    have := congrArg List.length hp1
    rw [List.length_append] at this ⊢
    omega
  by_cases hlt : m < 128
  · repeat' (first | (first | ((with_reducible apply kx_bs1); exact ty_el; exact ty_inf; rfl; rfl; rfl; intro bz; (refine apk ?_)) | ((with_reducible apply kx_bsN); exact ty_el; exact ty_inf; rfl; rfl; rfl; intro bz; (refine apk ?_))) | ((with_reducible apply kx_lend [(bz, .cells [.int .u8 (m : Nat)].toArray 5 (0, 0))]); (exact atks); intro r' hl'; (with_reducible apply kx_appM (news := [.int .u8 (m : Nat)])); exact ty_el; exact ty_inf; rfl; rfl; rfl; rfl; exact (Sl.lit (n := 1) (Lent.h1 hl') rfl (by simp [maxLen])); (exact atk); rfl; omega; (unfold maxLen; omega); (omega); intro a' c'; (refine apk ?_)) | refine aw0 ?_ | (refine ap2 ?_ ?_ <;> try intro h) | refine aw1 ?_ | (refine abx ?_; intro bb) | (refine abz ?_; intro bz) | (refine ahv ?_; intro v' hv') | (refine aac ?_; intro ac cc) | refine aw2 ?_ | (refine ap4 ?_ ?_ <;> try intro h) | apply True.intro)
    ((with_reducible apply fp_end); exact res_0 rfl)
    exact HR.out _ _ _ [pt g _, RowM 5 1 _ _ _] (by (exact atks)) ⟨_, by rw [hp1, septs_small hlt, ← List.append_assoc, u8m_snoc _ _ (l ++ p) _ _ (by rw [u8_lt (by omega)])]⟩
  · repeat' (first | (first | ((with_reducible apply kx_bs1); exact ty_el; exact ty_inf; rfl; rfl; rfl; intro bz; (refine apk ?_)) | ((with_reducible apply kx_bsN); exact ty_el; exact ty_inf; rfl; rfl; rfl; intro bz; (refine apk ?_))) | ((with_reducible apply kx_lend [(bz, .cells [.int .u8 ((m : Int) % 128 + 128)].toArray 5 (0, 0))]); (exact atks); intro r' hl'; (with_reducible apply kx_appM (news := [.int .u8 ((m : Int) % 128 + 128)])); exact ty_el; exact ty_inf; rfl; rfl; rfl; rfl; exact (Sl.lit (n := 1) (Lent.h1 hl') rfl (by simp [maxLen])); (exact atk); rfl; omega; (unfold maxLen; omega); (omega); intro a' c'; (refine apk ?_)) | refine aw0 ?_ | (refine ap2 ?_ ?_ <;> try intro h) | refine aw1 ?_ | (refine abx ?_; intro bb) | (refine abz ?_; intro bz) | (refine ahv ?_; intro v' hv') | (refine aac ?_; intro ac cc) | refine aw2 ?_ | (refine ap4 ?_ ?_ <;> try intro h) | apply True.intro)
    exact ⟨_, by omega, m / 128, p ++ [UInt8.ofNat (m % 128 + 128)], .slice a' ((l ++ p).length + 1) c', rfl, by omega, by rw [hp1, septs_big hlt]; simp, ⟨_, by rw [← List.append_assoc, u8m_snoc _ _ (l ++ p) _ (↑m % 128 + 128) (by rw [u8_lt (by omega)]; omega)]; (exact atks)⟩, asls⟩
end Go.Proofs.YtohpeoakdgckfaaGreat
