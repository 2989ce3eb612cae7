/- mudlarkref22: Right, Get: their contracts. -/
import Derived.Test.YtfgkhkpngnhimaaGreatRl
import Derived.Test.YtfgkhkpngnhimaaGreatKk
import Derived.Test.YtfgkhkpngnhimaaGreatDc
import Derived.Test.YtfgkhkpngnhimaaGreatKa
namespace Go.Proofs.YtfgkhkpngnhimaaGreat
open Go.RowKit Sx

def gD (ds : List DocV) (j : Nat) : Bool := refOk (ds.getD j default).path && decide ((ds.getD j default).lang = langOf (ds.getD j default).path) && decide (0 ≤ (ds.getD j default).size) && decide ((ds.getD j default).size ≤ 1048576) && (decide (j = 0) || Op.bytesLess (ds.getD (j - 1) default).path (ds.getD j default).path)
theorem gD_iff (ds : List DocV) (j : Nat) : gD ds j = true ↔ refOk (ds.getD j default).path = true ∧ (ds.getD j default).lang = langOf (ds.getD j default).path ∧ 0 ≤ (ds.getD j default).size ∧ (ds.getD j default).size ≤ 1048576 ∧ (j = 0 ∨ Op.bytesLess (ds.getD (j - 1) default).path (ds.getD j default).path = true) := by
  unfold gD; simp only [Bool.and_eq_true, Bool.or_eq_true, decide_eq_true_eq, and_assoc]
def refDocs (ds : List DocV) : Bool := (List.range ds.length).all (gD ds) && decide (ds.length ≤ 4000)
theorem rrB_any (r : Hp) (p : List UInt8) (hp : p.length ≤ 1000000) : Tri Tryz.prog r 37 [.string (bs p)] [] fun w H => w = .bool (refOk p) ∧ H = [] := by
  have := rright_any r (bs p) (by rw [bs_size]; exact hp)
  rwa [show (bs p).data.toList = p from rfl] at this
theorem roB_any (r : Hp) (p : List UInt8) (hp : p.length ≤ 1000000) : Tri Tryz.prog r 38 [.string (bs p)] [] fun w H => w = .string (bs (langOf p)) ∧ H = [] := by
  have := rof_any r (bs p) (by rw [bs_size]; exact hp)
  rwa [show (bs p).data.toList = p from rfl] at this
set_option maxRecDepth 10000 in
set_option maxHeartbeats 4000000 in
theorem rdocs_any (r : Hp) (v : Value) (ds : List DocV) (hv : Docs r v ds) (hl : ∀ x ∈ ds, x.path.length ≤ 1000000) : Tri Tryz.prog r 11 [v] [] fun w H => w = .bool (refDocs ds) ∧ H = [] := by
  refine Tri.free2 fun R HR => ?_
  have hlm := maxI hv.2.2.1
  refine fn_of_sw Tryz.func11 rfl _ rfl ?_; simp only [Tryz.ntmps11, List.length_cons, List.length_nil, Nat.reduceAdd, Nat.reduceSub, List.replicate_succ, List.replicate_zero, List.nil_append, List.cons_append]
  repeat' (first | (refine aw0m ?_) | (refine ap2 ?_ ?_ <;> first | exact True.intro | intro h) | (refine aw1m ?_) | (refine abx ?_; intro bb) | (refine abz ?_; intro bz) | (refine ahv ?_; intro v' hv') | (refine aac ?_; intro ac cc) | (refine aw2 ?_) | (refine ap4 ?_ ?_ <;> first | exact True.intro | intro h) | (with_reducible refine tr_two ?_ ?_))
  refine sw_loop (fun gm t H' => ∃ k : Nat, gm = ds.length + 1 - k ∧ (k ≤ ds.length) ∧ ((List.range k).all (gD ds) = true) ∧ (∃ G, Takes [] H' G) ∧ (t.length = 68 ∧ t[0]? = some (v) ∧ t[3]? = some (.int .i64 k))) _ ⟨0, rfl, Nat.zero_le _, rfl, ⟨[], by (exact atks)⟩, rfl, (by first | rfl | exact congrArg some (congrArg (Value.int _) (by omega)) | (congr 2 <;> omega)), (by first | rfl | exact congrArg some (congrArg (Value.int _) (by omega)) | (congr 2 <;> omega))⟩ ?_
  rintro gm t H' ⟨k, rfl, hk, ha, ⟨G, hp⟩, hlen, e0, e3⟩
  revert e0 e3; revert t; refine all_len (n := 68) ?_; iterate 68 intro uu'
  intro e0 e3; cases e0; cases e3
  refine sw_takeG hp ?_
  clear hp
  by_cases hlt : k < ds.length
  · have hpl := hl (ds.getD k default) (by simp [hlt])
    have e1 : ((k : Int) - 1).toNat = k - 1 := by omega
    repeat' (first | (refine aw0m ?_) | (refine ap2 ?_ ?_ <;> first | exact True.intro | intro h) | (first | ((with_reducible apply sw_draw (id := 4) 55 [(0, true), (1, true), (2, true), (3, true), (4, true), (5, false), (6, true), (7, true), (8, true), (9, true), (10, true), (11, true), (12, true), (13, true), (14, true), (15, true), (16, true), (17, true), (18, false), (19, true), (20, true), (21, true), (22, true), (23, true), (24, true), (25, true), (26, true), (27, true), (28, true), (29, true), (30, true), (31, true), (32, true), (33, true), (34, true), (35, true), (36, true), (37, true), (38, true), (39, true), (40, true), (41, true), (42, true), (43, true), (44, true), (45, true), (46, true), (47, true), (48, true), (49, true), (50, true), (51, true), (52, true), (53, true), (54, true)] [] []); kernel_rfl; (exact atks); kernel_rfl; intro r' hl')) | ((with_reducible apply kx_call (f := 37) (cap := [])); exact goesOf Tryz.func37 (by kernel_rfl) rfl; rfl; rfl; exact (rrB_any _ _ hpl); (exact atks); rintro v' H' ⟨rfl, rfl⟩; all_goals ((try simp only [List.nil_append]); (refine apk ?_))) | ((with_reducible apply kx_call (f := 38) (cap := [])); exact goesOf Tryz.func38 (by kernel_rfl) rfl; rfl; rfl; exact (roB_any _ _ hpl); (exact atks); rintro v' H' ⟨rfl, rfl⟩; all_goals ((try simp only [List.nil_append]); (refine apk ?_))) | (refine aw1m ?_) | (refine abx ?_; intro bb) | (refine abz ?_; intro bz) | (refine ahv ?_; intro v' hv') | (refine aac ?_; intro ac cc) | (refine aw2 ?_) | (refine ap4 ?_ ?_ <;> first | exact True.intro | intro h) | (with_reducible refine tr_two ?_ ?_))
    all_goals first
    | (have hF : gD ds k = false := by
        rw [← Bool.not_eq_true, gD_iff]
        rintro ⟨g1, g2, g3, g4, g5⟩
        first
        | omega
        | exact h g2
        | (rw [h] at g1; cases g1)
        | (rw [e1] at h; rcases g5 with g5 | g5; omega; rw [h] at g5; cases g5)
       ((with_reducible apply fp_ret); exact res_1 rfl rfl)
       exact HR.out _ _ _ [] (by (exact atks)) ⟨by unfold refDocs; rw [bad_all hlt hF]; rfl, rfl⟩)
    | (have hT : gD ds k = true := by
        rw [gD_iff]
        refine ⟨by assumption, by assumption, by omega, by omega, ?_⟩
        first
        | exact .inl (by omega)
        | (rw [e1] at h; exact .inr h)
       exact ⟨_, (by omega), k + 1, rfl, by omega, next_all ha hT, ⟨_, by (exact atks)⟩, rfl, (by first | rfl | exact congrArg some (congrArg (Value.int _) (by omega)) | (congr 2 <;> omega)), (by first | rfl | exact congrArg some (congrArg (Value.int _) (by omega)) | (congr 2 <;> omega))⟩)
  · obtain rfl : k = ds.length := by omega
    repeat' (first | (refine aw0m ?_) | (refine ap2 ?_ ?_ <;> first | exact True.intro | intro h) | (refine aw1m ?_) | (refine abx ?_; intro bb) | (refine abz ?_; intro bz) | (refine ahv ?_; intro v' hv') | (refine aac ?_; intro ac cc) | (refine aw2 ?_) | (refine ap4 ?_ ?_ <;> first | exact True.intro | intro h) | (with_reducible refine tr_two ?_ ?_))
    ((with_reducible apply fp_ret); exact res_1 rfl rfl)
    exact HR.out _ _ _ [] (by (exact atks)) ⟨by unfold refDocs; rw [ha, Bool.true_and]; congr 2; simp; omega, rfl⟩
theorem numR_bad {most : Int} {st : Option (List UInt8)} (h : (numR most st).2 = none) : (numR most st).1 = 0 := by
  cases st with
  | none => rfl
  | some l =>
    cases e : getN most l with
    | none => simp [numR, e]
    | some p => obtain ⟨n, x⟩ := p; simp [numR, e] at h
def refGetOk (l : List UInt8) : Bool := decide ((getDocs l).2 = some []) && refDocs (getDocs l).1
set_option maxRecDepth 10000 in
set_option maxHeartbeats 4000000 in
theorem rget_any (r : Hp) (v : Value) (b : List UInt8) (hv : U8S r v b) (hl : b.length ≤ 100000000) : Tri Tryz.prog r 51 [v] [] fun w H =>
    if refGetOk b then ∃ a c, w = .tuple #[.slice a (getDocs b).1.length c, .int .i64 0] ∧ H = [DocR (.slice a (getDocs b).1.length c) (getDocs b).1] else w = .tuple #[.slice none 0 0, .int .i64 9] ∧ H = [] := by
  refine Tri.free2 fun R HR => ?_
  have hgd : getDocs b = docsR (numR 4000 (some b)).1 (numR 4000 (some b)).2 := rfl
  have hn4 := numR_most 4000 (some b)
  have hc := fun g => rnumR_any r g v b 0 false 4000 hv hl (Nat.zero_le _)
  simp only [refSt, Bool.false_eq_true, if_false, List.drop_zero] at hc
  have hn0 := numR_bad (most := 4000) (st := some b)
  rw [show ((4000 : Nat) : Int) = 4000 from rfl] at hn4
  unfold refGetOk at HR
  generalize getDocs b = GD at hgd HR
  generalize numR 4000 (some b) = N at hgd hn4 hc hn0
  obtain ⟨n, st1⟩ := N
  dsimp only at hgd hn4 hc hn0
  refine fn_of_sw Tryz.func51 rfl _ rfl ?_; simp only [Tryz.ntmps51, List.length_cons, List.length_nil, Nat.reduceAdd, Nat.reduceSub, List.replicate_succ, List.replicate_zero, List.nil_append, List.cons_append]
  repeat' (first | ((with_reducible apply kx_call (f := 102) (cap := [])); exact goesOf Tryz.func102 (by kernel_rfl) rfl; rfl; rfl; exact (hc _); (exact atks); rintro v' H' ⟨rfl, at1, bad1, hat1, hst1, rfl⟩; all_goals ((try simp only [List.cons_append, List.nil_append]); (refine apk ?_))) | (refine aw0 ?_) | (refine ap2 ?_ ?_ <;> first | exact True.intro | intro h) | (refine aw1 ?_) | (refine abx ?_; intro bb) | (refine abz ?_; intro bz) | (refine ahv ?_; intro v' hv') | (refine aac ?_; intro ac cc) | (refine aw2 ?_) | (refine ap4 ?_ ?_ <;> first | exact True.intro | intro h) | (with_reducible refine tr_two ?_ ?_))
  subst hst1
  replace hgd : GD = docsR n (refSt b at1 bad1) := hgd
  have hd0 : GD = if bad1 then ([], none) else ([] ++ (docsR (n - 0) (refSt b at1 bad1)).1, (docsR (n - 0) (refSt b at1 bad1)).2) := by
    rw [hgd]
    cases bad1
    · simp
    · rw [hn0 rfl]; rfl
  have hbd := docsR_bd n (refSt b at1 bad1)
  rw [← hgd] at hbd
  clear hgd hn0 hc
  refine sw_put (A := RowC 47 4 (.slice none 0 0) 0 []) (RowC.nil _ _) ?_
  refine sw_loop (fun gm t H' => ∃ (k : Nat) (a : Option Addr) (c at_ : Nat) (bad : Bool) (ds : List DocV), gm = n + 1 - k ∧ (k ≤ n) ∧ (at_ ≤ b.length) ∧ (ds.length = k) ∧ (GD = if bad then (ds, none) else (ds ++ (docsR (n - k) (refSt b at_ bad)).1, (docsR (n - k) (refSt b at_ bad)).2)) ∧ (∃ G, Takes [pt bb (rrd v at_ bad), RowC 47 4 (.slice a k c) k (ds.flatMap encD)] H' G) ∧ (t.length = 59 ∧ t[4]? = some (.pointer (some ⟨bb, 0, none⟩)) ∧ t[5]? = some (.int .i64 n) ∧ t[6]? = some (.slice a k c) ∧ t[7]? = some (.int .i64 k))) _ ⟨0, _, _, at1, bad1, [], rfl, Nat.zero_le _, hat1, rfl, hd0, ⟨[], by (exact atks)⟩, rfl, (by first | rfl | exact congrArg some (congrArg (Value.int _) (by omega)) | (congr 2 <;> omega)), (by first | rfl | exact congrArg some (congrArg (Value.int _) (by omega)) | (congr 2 <;> omega)), (by first | rfl | exact congrArg some (congrArg (Value.int _) (by omega)) | (congr 2 <;> omega)), (by first | rfl | exact congrArg some (congrArg (Value.int _) (by omega)) | (congr 2 <;> omega))⟩ ?_
  rintro gm t H' ⟨k, a, c, at_, bad, ds, rfl, hk, hat, hdl, hds, ⟨G, hp⟩, hlen, e4, e5, e6, e7⟩
  revert e4 e5 e6 e7; revert t; refine all_len (n := 59) ?_; iterate 59 intro uu'
  intro e4 e5 e6 e7; cases e4; cases e5; cases e6; cases e7
  refine sw_takeG hp ?_
  clear hp
  cases bad
  · by_cases hlt : k < n
    · have hdR : docR (refSt b at_ false) = (⟨(textR 200 (refSt b at_ false)).1, langOf (textR 200 (refSt b at_ false)).1, (fixR (textR 200 (refSt b at_ false)).2).1, (numR 1048576 (fixR (textR 200 (refSt b at_ false)).2).2).1⟩, (numR 1048576 (fixR (textR 200 (refSt b at_ false)).2).2).2) := rfl
      have htl := textR_len 200 (refSt b at_ false)
      have hct := rtextR_any r bb v b at_ false 200 hv hl hat
      have hfx := fun at2 bad2 h => rfixR_any r bb v b at2 bad2 hv hl h
      have hnu := fun at2 bad2 h => rnumR_any r bb v b at2 bad2 1048576 hv hl h
      generalize hT : textR 200 (refSt b at_ false) = T at hdR htl hct
      obtain ⟨p, st2⟩ := T
      dsimp only at hdR htl hct
      repeat' (first | ((with_reducible apply kx_call (f := 103) (cap := [])); exact goesOf Tryz.func103 (by kernel_rfl) rfl; rfl; rfl; exact (hct); (exact atks); rintro v' H' ⟨a1, c1, at2, bad2, rfl, hat2, hst2, rfl⟩; all_goals ((try simp only [List.cons_append, List.nil_append]); (refine apk ?_))) | (refine aw0 ?_) | (refine ap2 ?_ ?_ <;> first | exact True.intro | intro h) | (refine aw1 ?_) | (refine abx ?_; intro bb) | (refine abz ?_; intro bz) | (refine ahv ?_; intro v' hv') | (refine aac ?_; intro ac cc) | (refine aw2 ?_) | (refine ap4 ?_ ?_ <;> first | exact True.intro | intro h) | (with_reducible refine tr_two ?_ ?_))
      subst hst2
      have hcf := hfx at2 bad2 hat2
      generalize hF : fixR (refSt b at2 bad2) = F at hdR hcf
      obtain ⟨cs, st3⟩ := F
      dsimp only at hdR hcf
      have hco := roB_any r p (by omega)
      repeat' (first | ((with_reducible apply kx_call (f := 38) (cap := [])); exact goesOf Tryz.func38 (by kernel_rfl) rfl; rfl; rfl; exact (hco); (exact atks); rintro v' H' ⟨rfl, rfl⟩; all_goals ((try simp only [List.nil_append]); (refine apk ?_))) | ((with_reducible apply kx_call (f := 104) (cap := [])); exact goesOf Tryz.func104 (by kernel_rfl) rfl; rfl; rfl; exact (hcf); (exact atks); rintro v' H' ⟨rfl, at3, bad3, hat3, hst3, rfl⟩; all_goals ((try simp only [List.cons_append, List.nil_append]); (refine apk ?_))) | (refine aw0 ?_) | (refine ap2 ?_ ?_ <;> first | exact True.intro | intro h) | (refine aw1 ?_) | (refine abx ?_; intro bb) | (refine abz ?_; intro bz) | (refine ahv ?_; intro v' hv') | (refine aac ?_; intro ac cc) | (refine aw2 ?_) | (refine ap4 ?_ ?_ <;> first | exact True.intro | intro h) | (with_reducible refine tr_two ?_ ?_))
      subst hst3
      have hcn := hnu at3 bad3 hat3
      generalize hN2 : numR 1048576 (refSt b at3 bad3) = N2 at hdR hcn
      obtain ⟨z, st4⟩ := N2
      dsimp only at hdR hcn
      repeat' (first | ((with_reducible apply kx_call (f := 102) (cap := [])); exact goesOf Tryz.func102 (by kernel_rfl) rfl; rfl; rfl; exact (hcn); (exact atks); rintro v' H' ⟨rfl, at4, bad4, hat4, hst4, rfl⟩; all_goals ((try simp only [List.cons_append, List.nil_append]); (refine apk ?_))) | (first | ((with_reducible apply kx_bs1); exact ty_el; exact ty_inf; rfl; rfl; rfl; intro bz; (refine apk ?_)) | ((with_reducible apply kx_bsN); exact ty_el; exact ty_inf; rfl; rfl; rfl; intro bz; (refine apk ?_))) | (first | ((with_reducible apply kx_append1); exact ty_el; exact ty_inf; rfl; rfl; rfl; (exact atk); (exact atk); rfl; (omega); intro a' c'; (refine apk ?_)) | ((with_reducible apply kx_appendN); exact ty_el; exact ty_inf; rfl; rfl; rfl; rfl; (exact atk); (exact atk); rfl; rfl; (omega); intro a' c'; (refine apk ?_))) | (refine aw0 ?_) | (refine ap2 ?_ ?_ <;> first | exact True.intro | intro h) | (refine aw1 ?_) | (refine abx ?_; intro bb) | (refine abz ?_; intro bz) | (refine ahv ?_; intro v' hv') | (refine aac ?_; intro ac cc) | (refine aw2 ?_) | (refine ap4 ?_ ?_ <;> first | exact True.intro | intro h) | (with_reducible refine tr_two ?_ ?_))
      subst hst4
      have hds' : GD = if bad4 then (ds ++ [⟨p, langOf p, cs, z⟩], none) else ((ds ++ [⟨p, langOf p, cs, z⟩]) ++ (docsR (n - (k + 1)) (refSt b at4 bad4)).1, (docsR (n - (k + 1)) (refSt b at4 bad4)).2) := by
        rw [hds, if_neg (by simp), show n - k = (n - (k + 1)) + 1 by omega, docsR_succ, hdR]
        cases bad4 <;> simp [refSt]
      exact ⟨_, (by omega), k + 1, a', c', at4, bad4, ds ++ [⟨p, langOf p, cs, z⟩], rfl, by omega, hat4, by simp; omega, hds', ⟨_, by rw [List.flatMap_append]; (exact atks)⟩, rfl, (by first | rfl | exact congrArg some (congrArg (Value.int _) (by omega)) | (congr 2 <;> omega)), (by first | rfl | exact congrArg some (congrArg (Value.int _) (by omega)) | (congr 2 <;> omega)), (by first | rfl | exact congrArg some (congrArg (Value.int _) (by omega)) | (congr 2 <;> omega)), (by first | rfl | exact congrArg some (congrArg (Value.int _) (by omega)) | (congr 2 <;> omega))⟩
    · obtain rfl : k = n := by omega
      rw [if_neg (by simp), Nat.sub_self] at hds
      simp only [docsR, List.append_nil] at hds
      subst hds
      dsimp only at HR hbd
      have hrd := fun r2 g2 (hg2 : sub g2 r2) (hA : RowC 47 4 (.slice a k c) k (ds.flatMap encD) g2) => rdocs_any r2 (.slice a k c) ds ⟨fun _ => rfl, by rw [hdl]; exact hA.sl hg2⟩ (fun x hx => Nat.le_trans (hbd.2 x hx).1 (by omega))
      have hlf : ∀ r' : Hp, sub r r' → Tri Tryz.prog r' 105 [.pointer (some ⟨bb, 0, none⟩)] [pt bb (rrd v at_ false)] fun w H => w = .int .i64 ((b.length - at_ : Nat) : Int) ∧ H = [pt bb (rrd v at_ false)] := fun r' hr => (rleftR_any r' bb v b at_ false (hv.mono hr) hl hat).mono fun w H h => ⟨h.1.trans (by simp [refSt]), h.2⟩
      have e1 : decide (refSt b at_ false = some []) = decide (b.length - at_ = 0) := by
        simp [refSt, Nat.sub_eq_zero_iff_le]
      rw [e1] at HR
      repeat' (first | ((with_reducible apply kx_call (f := 105) (cap := [])); exact goesOf Tryz.func105 (by kernel_rfl) rfl; rfl; rfl; exact (hlf _ (fun _ _ h => h)); (exact atks); rintro v' H' ⟨rfl, rfl⟩; all_goals ((try simp only [List.cons_append, List.nil_append]); (refine apk ?_))) | ((with_reducible apply kx_lendC (A := RowC 47 4 (.slice a k c) k (ds.flatMap encD))); (with_reducible (exact atk)); intro r2 g2 hr2 hg2 hA2; ((with_reducible apply kx_call (f := 11) (cap := [])); exact goesOf Tryz.func11 (by kernel_rfl) rfl; rfl; rfl; exact (hrd r2 g2 hg2 hA2); (exact atks); rintro v' H' ⟨rfl, rfl⟩; all_goals ((try simp only [List.nil_append]); (refine apk ?_)))) | (refine aw0 ?_) | (refine ap2 ?_ ?_ <;> first | exact True.intro | intro h) | (refine aw1 ?_) | (refine abx ?_; intro bb) | (refine abz ?_; intro bz) | (refine ahv ?_; intro v' hv') | (refine aac ?_; intro ac cc) | (refine aw2 ?_) | (refine ap4 ?_ ?_ <;> first | exact True.intro | intro h) | (with_reducible refine tr_two ?_ ?_))
      all_goals first
      | (((with_reducible apply fp_ret); exact res_2 rfl rfl rfl)
         exact HR.out _ _ _ [] (by (exact atks)) (by rw [if_neg (by simp only [Bool.and_eq_true, decide_eq_true_eq]; rintro ⟨g1, g2⟩; first | omega | (rw [h] at g2; cases g2))]; exact ⟨rfl, rfl⟩))
      | (((with_reducible apply fp_ret); exact res_2 rfl rfl rfl)
         exact HR.out _ _ _ [RowC _ _ _ _ _] (by (exact atks)) (by rw [if_pos (by simp only [Bool.and_eq_true, decide_eq_true_eq]; exact ⟨by omega, h⟩)]; exact ⟨a, c, by rw [hdl], by unfold DocR; rw [hdl]⟩))
  · rw [if_pos rfl] at hds
    subst hds
    repeat' (first | (refine aw0m ?_) | (refine ap2 ?_ ?_ <;> first | exact True.intro | intro h) | (refine aw1m ?_) | (refine abx ?_; intro bb) | (refine abz ?_; intro bz) | (refine ahv ?_; intro v' hv') | (refine aac ?_; intro ac cc) | (refine aw2 ?_) | (refine ap4 ?_ ?_ <;> first | exact True.intro | intro h) | (with_reducible refine tr_two ?_ ?_))
    all_goals
      ((with_reducible apply fp_ret); exact res_2 rfl rfl rfl)
      exact HR.out _ _ _ [] (by (exact atks)) (by rw [if_neg (by simp)]; exact ⟨rfl, rfl⟩)
end Go.Proofs.YtfgkhkpngnhimaaGreat
