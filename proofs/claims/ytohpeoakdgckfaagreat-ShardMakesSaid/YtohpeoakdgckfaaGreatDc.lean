
/- doc.Get: its contract. -/
import Derived.Test.YtohpeoakdgckfaaGreatDb
import Derived.Test.YtohpeoakdgckfaaGreatRc
namespace Go.Proofs.YtohpeoakdgckfaaGreat
open Go.RowKit Sx

attribute [local go_sem] Oper.semAt_some

/-- A doc read. -/
def docR (st : Option (List UInt8)) : DocV × Option (List UInt8) :=
  (⟨(textR 200 st).1, langOf (textR 200 st).1, (fixR (textR 200 st).2).1, (numR 1048576 (fixR (textR 200 st).2).2).1⟩, (numR 1048576 (fixR (textR 200 st).2).2).2)
set_option maxRecDepth 10000 in
set_option maxHeartbeats 1000000 in
theorem docR_any (r : Hp) (g : Nat) (v : Value) (bad : Bool) (st : Option (List UInt8)) (hv : RdOk r v bad st) :
    Tri Tryz.prog r 186 [.agg [.pointer (some ⟨g, 0, none⟩)].toArray] [pt g (rdr v bad)] fun w H => w = .agg (encD (docR st).1).toArray ∧ ∃ v' bad', RdOk r v' bad' (docR st).2 ∧ H = [pt g (rdr v' bad')] := by
  refine Tri.free fun R HR => ?_
  have h1 := text_any r g v bad st 200 hv
  have hpl := textR_len 200 st
  have h2 := fun (r' : Hp) v' bad' (h : RdOk r' v' bad' (textR 200 st).2) => fixed_any r' g v' bad' _ h
  have h3 := fun v' bad' (h : RdOk r v' bad' (fixR (textR 200 st).2).2) => num_any r g v' bad' _ 1048576 h
  unfold docR at HR
  have e200 : ((200 : Nat) : Int) = 200 := rfl
  rw [e200] at hpl
  generalize textR 200 st = T at h1 hpl h2 h3 HR
  obtain ⟨p, s1⟩ := T
  dsimp only at h1 hpl h2 h3 HR
  generalize fixR s1 = F at h2 h3 HR
  obtain ⟨cs, s2⟩ := F
  dsimp only at h2 h3 HR
  generalize numR 1048576 s2 = N at h3 HR
  obtain ⟨n, s3⟩ := N
  dsimp only at h3 HR
  have hlof := fun r' => lof_any r' (bs p) (by rw [bs_size]; omega)
  rw [show (bs p).data.toList = p from rfl] at hlof
  have H1 := hid h1
  have H2 := hid h2
  have H3 := hid h3
  have HLOF := hid hlof
  clear h1 h2 h3 hlof hv e200
  unfold encD at HR
  refine fn_of_sw Tryz.func186 rfl _ rfl ?_; refine aen Tryz.ntmps186 ?_
  repeat' (first | ((with_reducible apply kx_box); rfl; (exact qcl); intro b1; (refine apk ?_)) | ((with_reducible apply kx_alloc); exact ty_zero; (exact qcl); intro b2; (refine apk ?_)) | (refine acl Tryz.func191 ?_; refine acr (H1.out) ?_; rintro v' H' ⟨a1, c1, v1, bad1, rfl, hv1, rfl⟩; all_goals refine apl ?_) | refine ax0 ?_ | (refine abb ?_; intro b) | refine ax1 ?_ | (refine aac ?_; intro ac cc) | refine ax2 ?_ | (refine ap3 ?_ ?_ <;> try intro h) | apply True.intro)
  ((with_reducible apply sw_draw (id := 2) 8 [(0, true), (3, true), (4, true), (1, false), (2, false), (6, true), (5, false), (7, false)] [(8, false), (9, false)] [(b1, .cells [.pointer (some ⟨g, 0, none⟩)].toArray 300 (0, 0))]); kernel_rfl; (exact atks); kernel_rfl; intro r' hl')
  have hb0 := hl'.2 _ List.mem_cons_self
  repeat' (first | refine ax0m ?_ | (refine abb ?_; intro b) | (refine acl Tryz.func79 ?_; refine acr (HLOF.out r') ?_; rintro v' H' ⟨rfl, rfl⟩; all_goals refine apl ?_) | (refine acl Tryz.func183 ?_; refine acr ((H2.out r v1 bad1 hv1).up hl'.1) ?_; rintro v' H' ⟨rfl, v2, bad2, hv2, rfl⟩; all_goals refine apl ?_) | refine ax1m ?_ | (refine aac ?_; intro ac cc) | refine ax2m ?_ | (refine ap3 ?_ ?_ <;> try intro h) | apply True.intro)
  repeat' (first | (refine acl Tryz.func185 ?_; refine acr (H3.out v2 bad2 hv2) ?_; rintro v' H' ⟨rfl, v3, bad3, hv3, rfl⟩; all_goals refine apl ?_) | refine ax0 ?_ | (refine abb ?_; intro b) | refine ax1 ?_ | (refine aac ?_; intro ac cc) | refine ax2 ?_ | (refine ap3 ?_ ?_ <;> try intro h) | apply True.intro)
  ((with_reducible apply fp_ret); apply res_cV; rfl; exact ty_agg; rfl; (exact atk); exact ty_size)
  exact HR.out _ [pt b1 _, U8R _ p, pt b2 _] _ _ (by (exact atks)) ⟨rfl, v3, bad3, hv3, rfl⟩

/-- n docs, or those ahead of the first fault. -/
def docsR : Nat → Option (List UInt8) → List DocV × Option (List UInt8)
  | 0, st => ([], st)
  | n + 1, st => if (docR st).2 = none then ([(docR st).1], none) else ((docR st).1 :: (docsR n (docR st).2).1, (docsR n (docR st).2).2)
theorem docsR_succ (n : Nat) (st : Option (List UInt8)) : docsR (n + 1) st = if (docR st).2 = none then ([(docR st).1], none) else ((docR st).1 :: (docsR n (docR st).2).1, (docsR n (docR st).2).2) := rfl
def getDocs (l : List UInt8) : List DocV × Option (List UInt8) := docsR (numR 4000 (some l)).1 (numR 4000 (some l)).2
def getOk (l : List UInt8) : Bool := decide ((getDocs l).2 = some []) && docsOk (getDocs l).1
theorem docR_bd (st : Option (List UInt8)) : (docR st).1.path.length ≤ 200 ∧ (docR st).1.sum < 4294967296 := ⟨textR_len 200 st, fixR_lt _⟩
theorem docsR_bd : ∀ (n : Nat) (st : Option (List UInt8)), (docsR n st).1.length ≤ n ∧ ∀ d ∈ (docsR n st).1, d.path.length ≤ 200 ∧ d.sum < 4294967296
  | 0, st => by simp [docsR]
  | n + 1, st => by
    unfold docsR
    have h1 := docR_bd st
    have h2 := docsR_bd n (docR st).2
    split
    · refine ⟨by simp, fun d hd => ?_⟩
      obtain rfl : d = (docR st).1 := by simpa using hd
      exact h1
    · refine ⟨by simp; exact h2.1, fun d hd => ?_⟩
      rcases List.mem_cons.1 hd with rfl | hd
      · exact h1
      · exact h2.2 d hd
set_option maxRecDepth 10000 in
set_option maxHeartbeats 2000000 in
theorem get_any (r : Hp) (v : Value) (l : List UInt8) (hv : U8S r v l) (hl : l.length ≤ 1000000000) : Tri Tryz.prog r 123 [v] [] fun w H =>
    if getOk l then ∃ a c, w = .tuple #[.slice a (getDocs l).1.length c, .int .i64 0] ∧ H = [DocR (.slice a (getDocs l).1.length c) (getDocs l).1] else w = .tuple #[.slice none 0 0, .int .i64 9] ∧ H = [] := by
  refine Tri.free fun R HR => ?_
  obtain ⟨a, c, rfl⟩ := hv.form
  have HV := hid hv
  have hb := docsR_bd (numR 4000 (some l)).1 (numR 4000 (some l)).2
  have hn4 := numR_most 4000 (some l)
  have hnum := fun r' g v' (h : U8S r' v' l) => num_any r' g v' false (some l) 4000 (.inl ⟨rfl, l, rfl, h⟩)
  rw [show docsR (numR 4000 (some l)).1 (numR 4000 (some l)).2 = getDocs l from rfl] at hb
  have hgd : getDocs l = docsR (numR 4000 (some l)).1 (numR 4000 (some l)).2 := rfl
  unfold getOk at HR
  generalize getDocs l = GD at hb hgd HR
  rw [show ((4000 : Nat) : Int) = 4000 from rfl] at hn4
  generalize numR 4000 (some l) = N at hb hn4 hnum hgd
  obtain ⟨n, st1⟩ := N
  dsimp only at hb hn4 hnum hgd
  have HNUM := hid hnum
  have HGD := hid hgd
  have HB := hid hb
  clear hnum hgd hb hv
  refine fn_of_sw Tryz.func123 rfl _ rfl ?_; refine aen Tryz.ntmps123 ?_
  refine sw_put (A := RowC 119 4 (.slice none 0 0) 0 []) (RowC.nil _ _) ?_
  repeat' (first | ((with_reducible apply kx_alloc); exact ty_zero; (exact qcl); intro b4; (refine apk ?_)) | (refine acl Tryz.func182 ?_; refine acr (read_any r _ l HV.out hl) ?_; rintro v' H' ⟨g, v0, rfl, rfl⟩; all_goals refine apl ?_) | ((with_reducible apply sw_freezeT (A := U8R v0 l)); (exact atk); intro r1 g1 hr1 hg1 hA1) | (refine acl Tryz.func185 ?_; refine acr (HNUM.out r1 g v0 (hA1.sl hg1)) ?_; rintro v' H' ⟨rfl, v1, bad1, hv1, rfl⟩; all_goals refine apl ?_) | refine ax0 ?_ | (refine abb ?_; intro b) | refine ax1 ?_ | (refine aac ?_; intro ac cc) | refine ax2 ?_ | (refine ap3 ?_ ?_ <;> try intro h) | apply True.intro)
  refine sw_loop (fun gg t H' => ∃ (k : Nat) (a' : Option Addr) (c' : Nat) (v' : Value) (bad : Bool) (st : Option (List UInt8)) (ds : List DocV), gg = n + 1 - k ∧ k ≤ n ∧ ds.length = k ∧ docsR n st1 = (ds ++ (docsR (n - k) st).1, (docsR (n - k) st).2) ∧ RdOk r1 v' bad st ∧
      (∃ G, Takes [pt b4 (.cells [.pointer (some ⟨g, 0, none⟩)].toArray 300 (0, 0)), pt g (rdr v' bad), RowC 119 4 (.slice a' k c') k (ds.flatMap encD)] H' G) ∧ (t.length = 39 ∧ t[2]? = some (.slice a' k c') ∧ t[4]? = some (.pointer (some ⟨b4, 0, none⟩)) ∧ t[10]? = some (.int .i64 n) ∧ t[11]? = some (.int .i64 k))) (n + 1)
    ⟨0, none, 0, v1, bad1, st1, [], rfl, Nat.zero_le _, rfl, rfl, hv1, ⟨[], by (exact atks)⟩, rfl, rfl, rfl, rfl, rfl⟩ ?_
  rintro gg t H' ⟨k, a1, c1, v', bad, st, ds, rfl, hk, hdl, hds, hv', ⟨G, hp⟩, hlen, e2, e4, e10, e11⟩
  revert e2 e4 e10 e11; revert t; refine all_len (n := 39) ?_; intro u0 u1 u2 u3 u4 u5 u6 u7 u8 u9 u10 u11 u12 u13 u14 u15 u16 u17 u18 u19 u20 u21 u22 u23 u24 u25 u26 u27 u28 u29 u30 u31 u32 u33 u34 u35 u36 u37 u38 e2 e4 e10 e11; cases e2; cases e4; cases e10; cases e11
  refine sw_takeG hp ?_
  clear hp
  by_cases hlt : k < n
  · have hd := docR_any r1 g v' bad st hv'
    obtain ⟨D, hD⟩ : ∃ D, docR st = D := ⟨_, rfl⟩
    obtain ⟨d, st2⟩ := D
    rw [hD] at hd
    dsimp only at hd
    obtain ⟨j, hj⟩ : ∃ j, n - k = j + 1 := ⟨n - k - 1, by omega⟩
    have hstep : docsR n st1 = if st2 = none then (ds ++ [d], none) else ((ds ++ [d]) ++ (docsR j st2).1, (docsR j st2).2) := by
      rw [hds, hj, docsR_succ, hD]; dsimp only; split <;> simp
    have HD := hid hd
    have HST := hid hstep
    clear hd hD hstep hds
    unfold encD at HD
    obtain ⟨p, la, cs, z⟩ := d
    dsimp only at HD
    obtain ⟨xs, hxs⟩ : ∃ xs, ds.flatMap encD = xs := ⟨_, rfl⟩
    rw [hxs]
    have HXS := hid hxs
    clear hxs
    repeat' (first | (refine acl Tryz.func186 ?_; refine acr (HD.out) ?_; rintro v' H' ⟨rfl, v2, bad2, hv2, rfl⟩; all_goals refine apl ?_) | (first | ((with_reducible apply kx_bs1); exact ty_el; exact ty_inf; rfl; rfl; rfl; intro bz; (refine apk ?_)) | ((with_reducible apply kx_bsN); exact ty_el; exact ty_inf; rfl; rfl; rfl; intro bz; (refine apk ?_))) | (first | ((with_reducible apply kx_append1); exact ty_el; exact ty_inf; rfl; rfl; rfl; (exact atk); (exact atk); rfl; (omega); intro a' c'; (refine apk ?_)) | ((with_reducible apply kx_appendN); exact ty_el; exact ty_inf; rfl; rfl; rfl; rfl; (exact atk); (exact atk); rfl; rfl; (omega); intro a' c'; (refine apk ?_))) | (refine acl Tryz.func187 ?_; refine acr (rok_any _ g v2 bad2) ?_; rintro v' H' ⟨rfl, rfl⟩; all_goals refine apl ?_) | refine ax0 ?_ | (refine abb ?_; intro b) | refine ax1 ?_ | (refine aac ?_; intro ac cc) | refine ax2 ?_ | (refine ap3 ?_ ?_ <;> try intro h) | apply True.intro)
    · ((with_reducible apply fp_ret); exact res_2 rfl rfl rfl)
      have hb : bad2 = true := by assumption
      subst hb
      have hn := hv2.bad
      have e := HST.out
      rw [if_pos hn] at e
      exact HR.out _ _ _ [] Takes.all (by rw [HGD.out, e, if_neg (by simp)]; exact ⟨rfl, rfl⟩)
    · have hb : bad2 = false := by assumption
      subst hb
      obtain ⟨x, hx, _⟩ := hv2.good
      have e := HST.out
      rw [if_neg (by rw [hx]; simp)] at e
      exact ⟨_, by omega, k + 1, a', c', v2, false, st2, ds ++ [⟨p, la, cs, z⟩], rfl, by omega, by simp; exact hdl, by rw [e, show n - (k + 1) = j by omega], hv2,
        ⟨_, by rw [List.flatMap_append, HXS.out]; simp only [List.flatMap_cons, List.flatMap_nil, List.append_nil, encD]; (exact atks)⟩, rfl, rfl, rfl, rfl, rfl⟩
  · obtain rfl : k = n := by omega
    rw [Nat.sub_self] at hds
    have hgd := HGD.out
    rw [hds] at hgd
    simp only [docsR, List.append_nil] at hgd
    subst hgd
    dsimp only at HR HB
    have HDS := hid hds
    clear hds
    obtain ⟨hB1, hB2⟩ := HB.out
    have hok := fun r' (h : RowC 119 4 (.slice a1 k c1) k (ds.flatMap encD) r') => True
    have HOK := hid (fun (r2 g2 : Hp) (hg2 : sub g2 r2) (h : RowC 119 4 (.slice a1 k c1) k (ds.flatMap encD) g2) => docsOk_any r2 (.slice a1 k c1) ds ⟨fun _ => rfl, by rw [hdl]; exact h.sl hg2⟩ (fun x hx => Nat.le_trans (hB2 x hx).1 (by omega)))
    clear hB1 hB2 hok
    cases bad
    · obtain ⟨x, rfl, hx⟩ := hv'.good
      obtain ⟨nx, hnx⟩ : ∃ nx, x.length = nx := ⟨_, rfl⟩
      have hlf := rleft_ok r1 g v' x hx
      rw [hnx] at hlf
      obtain ⟨q, hq⟩ : ∃ q, docsOk ds = q := ⟨_, rfl⟩
      rw [hq] at HOK HR
      obtain ⟨q2, hq2⟩ : ∃ q2, decide (0 < nx) = q2 := ⟨_, rfl⟩
      have hx0 : decide (some x = some []) = !q2 := by
        rw [← hq2]
        cases x with
        | nil => simp at hnx; subst hnx; simp
        | cons y x => simp at hnx; simp; omega
      rw [hx0] at HR
      have HLF := hid hlf
      clear hlf hx0 hq
      cases q2
      · cases q
        all_goals
          repeat' (first | (refine acl Tryz.func187 ?_; refine acr (rok_any _ g v' false) ?_; rintro v' H' ⟨rfl, rfl⟩; all_goals refine apl ?_) | (refine acl Tryz.func188 ?_; refine acr (HLF.out) ?_; rintro v' H' ⟨rfl, rfl⟩; all_goals refine apl ?_) | ((with_reducible apply kx_lendC (A := RowC 119 4 (.slice a1 k c1) k (ds.flatMap encD))); (exact atk); intro r2 g2 hr2 hg2 hA2; (refine acl Tryz.func84 ?_; refine acr (HOK.out r2 g2 hg2 hA2) ?_; rintro v' H' ⟨rfl, rfl⟩; all_goals refine apl ?_)) | refine ax0 ?_ | (refine abb ?_; intro b) | refine ax1 ?_ | (refine aac ?_; intro ac cc) | refine ax2 ?_ | (refine ap3 ?_ ?_ <;> try intro h) | apply True.intro)
          ((with_reducible apply fp_ret); exact res_2 rfl rfl rfl)
          first
          | exact HR.out _ _ _ [] Takes.all (by rw [if_neg (by simp)]; exact ⟨rfl, rfl⟩)
          | exact HR.out _ [pt g _, pt b4 _] _ _ (by (exact atks)) (by rw [if_pos (by simp)]; exact ⟨a1, c1, by rw [hdl], by unfold DocR; rw [hdl]⟩)
      · repeat' (first | (refine acl Tryz.func187 ?_; refine acr (rok_any _ g v' false) ?_; rintro v' H' ⟨rfl, rfl⟩; all_goals refine apl ?_) | (refine acl Tryz.func188 ?_; refine acr (HLF.out) ?_; rintro v' H' ⟨rfl, rfl⟩; all_goals refine apl ?_) | refine ax0 ?_ | (refine abb ?_; intro b) | refine ax1 ?_ | (refine aac ?_; intro ac cc) | refine ax2 ?_ | (refine ap3 ?_ ?_ <;> try intro h) | apply True.intro)
        ((with_reducible apply fp_ret); exact res_2 rfl rfl rfl)
        exact HR.out _ _ _ [] Takes.all (by rw [if_neg (by simp)]; exact ⟨rfl, rfl⟩)
    · obtain rfl := hv'.bad
      repeat' (first | (refine acl Tryz.func187 ?_; refine acr (rok_any _ g v' true) ?_; rintro v' H' ⟨rfl, rfl⟩; all_goals refine apl ?_) | refine ax0 ?_ | (refine abb ?_; intro b) | refine ax1 ?_ | (refine aac ?_; intro ac cc) | refine ax2 ?_ | (refine ap3 ?_ ?_ <;> try intro h) | apply True.intro)
      ((with_reducible apply fp_ret); exact res_2 rfl rfl rfl)
      exact HR.out _ _ _ [] Takes.all (by rw [if_neg (by simp)]; exact ⟨rfl, rfl⟩)
end Go.Proofs.YtohpeoakdgckfaaGreat
