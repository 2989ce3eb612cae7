
/- doc: the small functions, each, paths, Files, Right, Find: their contracts. -/
import Derived.Test.YtmnehdpclnhmbaaEl
import Derived.Test.YtmnehdpclnhmbaaEm
import Derived.Test.YtmnehdpclnhmbaaLa
namespace Go.Proofs.Ytmnehdpclnhmbaa
open Go.RowKit Sx

attribute [local go_sem] Oper.semAt_some

set_option maxHeartbeats 400000 in
theorem fileBig_any (r : Hp) (f : FileV) (hf : U8S r f.val f.data) : Tri Try.prog r 26 [.agg (encF f).toArray] [] fun w H => w = .bool (decide (1048576 < f.data.length)) ∧ H = [] := by
  refine Tri.free fun R HR => ?_
  obtain ⟨p, v, l⟩ := f
  dsimp only at hf HR
  obtain ⟨a, c, rfl⟩ := hf.form
  unfold encF
  clear hf
  dsimp only
  refine fn_of_sw Try.func26 rfl _ rfl ?_; refine aen Try.ntmps26 ?_
  repeat' (first | refine ax0m ?_ | (refine abb ?_; intro b) | refine ax1m ?_ | (refine aac ?_; intro ac cc) | refine ax2m ?_ | (refine ap3 ?_ ?_ <;> try intro h) | apply True.intro)
  ((with_reducible apply fp_ret); exact res_1 rfl rfl)
  exact HR.out _ [_] _ [] (by (exact atks)) ⟨by congr 1; simp; omega, rfl⟩
set_option maxHeartbeats 400000 in
theorem filePath_any (r : Hp) (f : FileV) : Tri Try.prog r 30 [.agg (encF f).toArray] [] fun w H => w = .string (bs f.path) ∧ H = [] := by
  refine Tri.free fun R HR => ?_
  unfold encF
  refine fn_of_sw Try.func30 rfl _ rfl ?_; refine aen Try.ntmps30 ?_
  repeat' (first | refine ax0m ?_ | (refine abb ?_; intro b) | refine ax1m ?_ | (refine aac ?_; intro ac cc) | refine ax2m ?_ | (refine ap3 ?_ ?_ <;> try intro h) | apply True.intro)
  ((with_reducible apply fp_ret); exact res_1 rfl rfl)
  exact HR.out _ [_] _ [] (by (exact atks)) ⟨rfl, rfl⟩
/-- A path told. -/
def tell1 (s : List UInt8) : List Value := [.string (bs s)]
def GoodFile (f : FileV) : Prop := ∃ a n c, f.val = .slice a n c
set_option maxRecDepth 10000 in
set_option maxHeartbeats 400000 in
theorem eachFile_seq (r : Hp) (v : Value) (xs : List FileV) (hv : Els r 2 encF v xs) (hgd : ∀ x ∈ xs, GoodFile x) (B1 B2 : Nat) : Seq Try.prog r 53 [.pointer (some ⟨B1, 0, none⟩), .pointer (some ⟨B2, 0, none⟩)] tell1 (xs.map (·.path))
    [pt B1 (.cells [v].toArray 27 (0, 0)), pt B2 (.cells [.func (.func 30) #[] #[]].toArray 80 (0, 0))] [] := by
  intro k J Jx hY
  refine Tri.free fun R HR => ?_
  obtain ⟨a, c, rfl⟩ := hv.form
  have hn := hv.2.2.1
  unfold maxLen at hn
  obtain ⟨n, hln⟩ : ∃ n, xs.length = n := ⟨_, rfl⟩
  rw [hln] at hn hv ⊢
  have HLN := hid hln
  have HY := hid hY
  clear hln hY
  refine fn_of_sw Try.func53 rfl _ rfl ?_; refine aen Try.ntmps53 ?_
  repeat' (first | refine ax0m ?_ | (refine abb ?_; intro b) | refine ax1m ?_ | (refine aac ?_; intro ac cc) | refine ax2m ?_ | (refine ap3 ?_ ?_ <;> try intro h) | apply True.intro)
  refine sw_loop (fun g t H' => ∃ i : Nat, g = n + 1 - i ∧ i ≤ n ∧ (∃ G, Takes [J i, pt B1 (.cells [.slice a n c].toArray 27 (0, 0)), pt B2 (.cells [.func (.func 30) #[] #[]].toArray 80 (0, 0))] H' G) ∧ (t.length = 19 ∧ t[0]? = some (.func (.yield k) #[] #[]) ∧ t[1]? = some (.pointer (some ⟨B1, 0, none⟩)) ∧ t[2]? = some (.pointer (some ⟨B2, 0, none⟩)) ∧ t[6]? = some (.slice a n c) ∧ t[7]? = some (.int .i64 n) ∧ t[8]? = some (.int .i64 i))) (n + 1)
    ⟨0, rfl, Nat.zero_le _, ⟨[], by (exact atks)⟩, rfl, rfl, rfl, rfl, rfl, rfl, rfl⟩ ?_
  rintro g t H' ⟨i, rfl, hi, ⟨G, hp⟩, hlen, e0, e1, e2, e6, e7, e8⟩
  revert e0 e1 e2 e6 e7 e8; revert t; refine all_len (n := 19) ?_; intro u0 u1 u2 u3 u4 u5 u6 u7 u8 u9 u10 u11 u12 u13 u14 u15 u16 u17 u18 e0 e1 e2 e6 e7 e8; cases e0; cases e1; cases e2; cases e6; cases e7; cases e8
  refine sw_takeG hp ?_
  clear hp
  by_cases hlt : i < n
  · have hix : i < xs.length := by rw [HLN.out]; exact hlt
    obtain ⟨b, off, rfl, hc⟩ := hv.at hix HLN.out
    have hy := HY.out i (by simpa using hix)
    have hw := hgd xs[i] (List.getElem_mem hix)
    obtain ⟨x, hx⟩ : ∃ x, xs[i] = x := ⟨_, rfl⟩
    simp only [List.getElem_map] at hy
    rw [hx] at hy hc hw
    (obtain ⟨ax, nx, cx, hvx⟩ := hw; obtain ⟨px, vx, lx⟩ := x; dsimp only at hvx; subst hvx; have hw := trivial)
    have HY1 := hid hy
    have hc' := fun H => hc r H (fun _ _ h => h)
    unfold encF at hc'
    have hc := hc' [J i, pt B1 (.cells [.slice (some ⟨b, off, none⟩) n c].toArray 27 (0, 0)), pt B2 (.cells [.func (.func 30) #[] #[]].toArray 80 (0, 0))]
    clear hy hc' hx hw
    repeat' (first | refine ax0m ?_ | (refine abb ?_; intro b) | (refine acl Try.func30 ?_; refine acr (filePath_any _ _) ?_; rintro v' H' ⟨rfl, rfl⟩; all_goals refine apl ?_) | ((with_reducible apply kx_yield); rfl; exact (HY1.out); rfl; (exact atk); all_goals (refine apk ?_)) | refine ax1m ?_ | (refine aac ?_; intro ac cc) | refine ax2m ?_ | (refine ap3 ?_ ?_ <;> try intro h) | apply True.intro)
    · exact ⟨_, by omega, i + 1, rfl, by omega, ⟨_, by (exact atks)⟩, rfl, rfl, rfl, rfl, rfl, rfl, rfl⟩
    · ((with_reducible apply fp_ret); exact res_0 rfl)
      exact HR.out _ [pt _ _, pt B1 _, pt B2 _] _ [Jx (i + 1)] (by (exact atks)) (.inr ⟨i, [], by rw [List.length_map, HLN.out]; exact hlt, rfl⟩)
  · obtain rfl : i = n := by omega
    repeat' (first | refine ax0m ?_ | (refine abb ?_; intro b) | refine ax1m ?_ | (refine aac ?_; intro ac cc) | refine ax2m ?_ | (refine ap3 ?_ ?_ <;> try intro h) | apply True.intro)
    ((with_reducible apply fp_end); exact res_0 rfl)
    exact HR.out _ [pt B1 _, pt B2 _] _ [J i] (by (exact atks)) (.inl (by rw [List.length_map, HLN.out]))
set_option maxHeartbeats 400000 in
theorem eachFile_any (r : Hp) (a : Option Addr) (n c : Nat) : Tri Try.prog r 29 [.slice a n c, .func (.func 30) #[] #[]] [] fun w H => ∃ B1 B2, w = .func (.func 53) #[] #[.pointer (some ⟨B1, 0, none⟩), .pointer (some ⟨B2, 0, none⟩)] ∧
    H = [pt B2 (.cells [.func (.func 30) #[] #[]].toArray 80 (0, 0)), pt B1 (.cells [.slice a n c].toArray 27 (0, 0))] := by
  refine fn_of_sw Try.func29 rfl _ rfl ?_; refine aen Try.ntmps29 ?_
  repeat' (first | refine ax0m ?_ | (refine abb ?_; intro b) | refine ax1m ?_ | (refine aac ?_; intro ac cc) | refine ax2m ?_ | (refine ap3 ?_ ?_ <;> try intro h) | apply True.intro)
  ((with_reducible apply fp_ret); exact res_1 rfl rfl)
  exact ⟨_, _, rfl, rfl⟩
/-- Told paths are right and rise. -/
def ordOk : List UInt8 → List (List UInt8) → Bool
  | _, [] => true
  | last, p :: ps => pathOk p && !(Op.bytesLess p last || p == last) && ordOk p ps
set_option maxRecDepth 10000 in
set_option maxHeartbeats 1000000 in
theorem paths_any (r : Hp) (gf : FuncId) (lb : List Value) (hg : GoesTo Try.prog gf) (ps : List (List UInt8)) (H0 : List Ch) (hs : Seq Try.prog r gf lb tell1 ps H0 []) (hl : ∀ p ∈ ps, p.length ≤ 1000000) :
    Tri Try.prog r 28 [.func (.func gf) #[] lb.toArray] H0 fun w H => w = .bool (ordOk [] ps) ∧ H = [] := by
  refine Tri.free fun R HR => ?_
  have HL := hid hl
  have HS := hid hs
  clear hl hs
  refine fn_of_sw Try.func28 rfl _ rfl ?_; refine aen Try.ntmps28 ?_
  repeat' (first | ((with_reducible apply kx_alloc (z := .bool false)); exact ty_zero; (exact qcl); intro b2; (refine apk ?_)) | ((with_reducible apply kx_alloc (z := .string ⟨#[]⟩)); exact ty_zero; (exact qcl); intro b3; (refine apk ?_)) | refine ax0 ?_ | (refine abb ?_; intro b) | refine ax1 ?_ | (refine aac ?_; intro ac cc) | refine ax2 ?_ | (refine ap3 ?_ ?_ <;> try intro h) | apply True.intro)
  refine sw_range rfl hg HS.out (show Takes H0 ([_, _] ++ H0) [_, _] from List.perm_append_comm) (fun _ => rfl)
    (fun k H => ∃ last, ordOk [] ps = ordOk last (ps.drop k) ∧ Takes [pt b3 (.cells [.string (bs last)].toArray 9 (0, 0)), pt b2 (.cells [.bool false].toArray 4 (0, 0))] H [])
    (fun c k H => c = .ret ∧ ordOk [] ps = false ∧ ∃ G, Takes [pt b2 (.cells [.bool false].toArray 4 (0, 0))] H G) ⟨[], rfl, by (exact atks)⟩ ?_ ?_ ?_
  · rintro k3 k hk H ⟨last, ho, hp⟩
    refine sw_take hp ?_
    clear hp
    obtain ⟨x, hx⟩ : ∃ x, ps[k] = x := ⟨_, rfl⟩
    have hd : ps.drop k = x :: ps.drop (k + 1) := by rw [← hx]; exact List.drop_eq_getElem_cons hk
    rw [hd] at ho
    rw [show ordOk last (x :: ps.drop (k + 1)) = (pathOk x && !(Op.bytesLess x last || x == last) && ordOk x (ps.drop (k + 1))) from rfl] at ho
    have hxl := HL.out x (hx ▸ List.getElem_mem hk)
    have hlr := lright_any r (bs x) (by rw [bs_size]; exact hxl)
    rw [show (bs x).data.toList = x from rfl] at hlr
    rw [hx, show tell1 x = [.string (bs x)] from rfl, pars1]
    obtain ⟨q1, h1⟩ : ∃ q1, pathOk x = q1 := ⟨_, rfl⟩
    rw [h1] at hlr ho
    have HLR := hid hlr
    have HO := hid ho
    clear hlr ho hx hd h1
    (refine apk ?_)
    cases q1
    · repeat' (first | refine ax0m ?_ | (refine abb ?_; intro b) | (refine acl Try.func52 ?_; refine acr (HLR.out) ?_; rintro v' H' ⟨rfl, rfl⟩; all_goals refine apl ?_) | refine ax1m ?_ | (refine aac ?_; intro ac cc) | refine ax2m ?_ | (refine ap3 ?_ ?_ <;> try intro h) | apply True.intro)
      exact ⟨rfl, by rw [HO.out]; rfl, _, by (exact atks)⟩
    · repeat' (first | refine ax0m ?_ | (refine abb ?_; intro b) | (refine acl Try.func52 ?_; refine acr (HLR.out) ?_; rintro v' H' ⟨rfl, rfl⟩; all_goals refine apl ?_) | refine ax1m ?_ | (refine aac ?_; intro ac cc) | refine ax2m ?_ | (refine ap3 ?_ ?_ <;> try intro h) | apply True.intro)
      · rw [bs_toList, bs_toList] at h
        exact ⟨rfl, by rw [HO.out]; rcases h with h | h <;> simp [h], _, by (exact atks)⟩
      · rw [bs_toList, bs_toList] at h
        exact ⟨x, by rw [HO.out, h.1, h.2]; rfl, by (exact atks)⟩
  · rintro H ⟨last, ho, hp⟩
    rw [List.drop_length] at ho
    have HO := hid ho
    refine sw_take (show Takes _ _ [] from hp) ?_
    clear hp ho
    repeat' (first | refine ax0m ?_ | (refine abb ?_; intro b) | refine ax1m ?_ | (refine aac ?_; intro ac cc) | refine ax2m ?_ | (refine ap3 ?_ ?_ <;> try intro h) | apply True.intro)
    ((with_reducible apply fp_ret); exact res_c rfl ty_agg rfl (by (exact ard)))
    exact HR.out _ [pt b3 _, pt b2 _] _ [] (by (exact atks)) ⟨by rw [HO.out]; rfl, rfl⟩
  · rintro c i H hi ⟨rfl, ho, G, hp⟩
    refine sw_takeG hp ?_
    have HO := hid ho
    clear hp ho
    repeat' (first | refine ax0m ?_ | (refine abb ?_; intro b) | refine ax1m ?_ | (refine aac ?_; intro ac cc) | refine ax2m ?_ | (refine ap3 ?_ ?_ <;> try intro h) | apply True.intro)
    ((with_reducible apply fp_ret); exact res_c rfl ty_agg rfl (by (exact ard)))
    exact HR.out _ [pt b2 _] _ [] (by (exact atks)) ⟨by rw [HO.out], rfl⟩

def bigF (f : FileV) : Bool := decide (1048576 < f.data.length)
def filesOk (fs : List FileV) : Bool := decide (fs.length ≤ 4000) && !(fs.any bigF) && ordOk [] (fs.map (·.path))
theorem Files.good {r : Hp} {v : Value} {fs : List FileV} (h : Files r v fs) : ∀ f ∈ fs, GoodFile f := fun f hf => by
  obtain ⟨a, c, e⟩ := (h.2 f hf).form
  exact ⟨a, _, c, e⟩
set_option maxHeartbeats 1000000 in
theorem filesOk_any (r : Hp) (v : Value) (xs : List FileV) (hv : Files r v xs) (hl : ∀ x ∈ xs, x.path.length ≤ 1000000) : Tri Try.prog r 11 [v] [] fun w H => w = .bool (filesOk xs) ∧ H = [] := by
  refine Tri.free fun R HR => ?_
  have hct := contFile_any r v xs 26 [] [] bigF (by first | exact hv.1 | exact hv) (goesOf Try.func26 (by kernel_rfl) rfl) (fun k hk => fileBig_any r _ (hv.2 _ (List.getElem_mem hk)))
  have hpt := fun B1 B2 => paths_any r _ [.pointer (some ⟨B1, 0, none⟩), .pointer (some ⟨B2, 0, none⟩)] (goesOf Try.func53 (by kernel_rfl) rfl) _ _ (eachFile_seq r v xs (by first | exact hv.1 | exact hv) hv.good B1 B2) (fun p hp => by
    obtain ⟨x, hx, rfl⟩ := List.mem_map.1 hp
    exact hl x hx)
  obtain ⟨a, c, rfl⟩ : ∃ a c, v = .slice a xs.length c := by first | exact hv.1.form | exact hv.form
  unfold filesOk at HR
  obtain ⟨n, hn⟩ : ∃ n, xs.length = n := ⟨_, rfl⟩
  obtain ⟨q1, h1⟩ : ∃ q1, decide ((n : Int) ≤ 4000) = q1 := ⟨_, rfl⟩
  obtain ⟨q2, h2⟩ : ∃ q2, xs.any bigF = q2 := ⟨_, rfl⟩
  have h1' : decide (n ≤ 4000) = q1 := by rw [← h1]; congr 1; simp; omega
  rw [hn] at HR hct hpt ⊢
  rw [h2] at hct HR
  rw [h1'] at HR
  have HCT := hid hct
  have HPT := hid hpt
  clear hct hpt hv hl h1' h2 hn
  cases q1
  · refine fn_of_sw Try.func11 rfl _ rfl ?_; refine aen Try.ntmps11 ?_
    repeat' (first | refine ax0m ?_ | (refine abb ?_; intro b) | refine ax1m ?_ | (refine aac ?_; intro ac cc) | refine ax2m ?_ | (refine ap3 ?_ ?_ <;> try intro h) | apply True.intro)
    ((with_reducible apply fp_ret); exact res_1 rfl rfl)
    exact HR.out _ [] _ _ (by (exact atks)) ⟨rfl, rfl⟩
  · cases q2
    all_goals
      refine fn_of_sw Try.func11 rfl _ rfl ?_; refine aen Try.ntmps11 ?_
      repeat' (first | refine ax0m ?_ | (refine abb ?_; intro b) | (refine acl Try.func27 ?_; refine acr (HCT.out) ?_; rintro v' H' ⟨rfl, rfl⟩; all_goals refine apl ?_) | (refine acl Try.func29 ?_; refine acr (eachFile_any _ _ _ _) ?_; rintro v' H' ⟨B1, B2, rfl, rfl⟩; all_goals refine apl ?_) | (refine acl Try.func28 ?_; refine acr (HPT.out B1 B2) ?_; rintro v' H' ⟨rfl, rfl⟩; all_goals refine apl ?_) | refine ax1m ?_ | (refine aac ?_; intro ac cc) | refine ax2m ?_ | (refine ap3 ?_ ?_ <;> try intro h) | apply True.intro)
      ((with_reducible apply fp_ret); exact res_1 rfl rfl)
      exact HR.out _ [] _ _ (by (exact atks)) ⟨rfl, rfl⟩
end Go.Proofs.Ytmnehdpclnhmbaa
