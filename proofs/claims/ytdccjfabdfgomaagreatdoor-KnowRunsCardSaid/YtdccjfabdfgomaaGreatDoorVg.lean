
/- slices.stableCmpFunc, SortStableFunc at structs: their contracts. -/
import Derived.Test.YtdccjfabdfgomaaGreatDoorVf
namespace Go.Proofs.YtdccjfabdfgomaaGreatDoor
open Go.RowKit Sx

set_option maxRecDepth 10000 in
set_option maxHeartbeats 8000000 in
theorem stableQ_any (r : Hp) (B c : Nat) (gf : FuncId) (key : QuV → Tx) (xs : List QuV) (n : Nat) (ni : Int) (hn : xs.length = n) (hni : ni = n) (hl : n ≤ 10000000) (hg : GoesTo Tryz.prog gf) (hone : ∀ x ∈ xs, (encQ x).all one? = true) (hcmp : CmpBy Tryz.prog r gf encQ key xs) : Tri Tryz.prog r 83 [.slice (some ⟨B, 0, none⟩) n c, .int .i64 ni, .func (.func gf) #[] #[]] [RowC 27 3 (.slice (some ⟨B, 0, none⟩) n c) n (xs.flatMap encQ)] fun _ H => ∃ zs, (SameK key zs xs ∧ UpIn key 0 n zs) ∧ H = [RowC 27 3 (.slice (some ⟨B, 0, none⟩) n c) n (zs.flatMap encQ)] := by
  subst hni
  refine Tri.free2 fun R HR => ?_
  refine fn_of_sw Tryz.func83 rfl _ rfl ?_; refine aen Tryz.ntmps83 ?_
  repeat' (first | refine aw0m ?_ | (refine ap2 ?_ ?_ <;> try intro h) | refine aw1m ?_ | (refine abx ?_; intro bb) | (refine abz ?_; intro bz) | (refine ahv ?_; intro v' hv') | (refine aac ?_; intro ac cc) | refine aw2 ?_ | (refine ap4 ?_ ?_ <;> try intro h) | apply True.intro)
  refine sw_loop (fun gm t H' => ∃ (k : Nat) (ys : List QuV), gm = n + 1 - 20 * k ∧ (20 * k ≤ n) ∧ (Part key 0 n xs ys) ∧ (Mixed key 20 1 k ys) ∧ (∃ G, Takes [RowC 27 3 (.slice (some ⟨B, 0, none⟩) n c) n (ys.flatMap encQ)] H' G) ∧ Sls t 63 [(0, .slice (some ⟨B, 0, none⟩) n c), (1, .int .i64 n), (2, .func (.func gf) #[] #[]), (6, .int .i64 20), (7, .int .i64 ((k * 20 : Nat) : Int)), (8, .int .i64 ((k * 20 + 20 : Nat) : Int))]) _ ⟨0, xs, rfl, by omega, Part.refl (Nat.zero_le _) (by omega), mixed_start blocks_one, ⟨_, atks⟩, asls⟩ ?_
  rintro gm t H' ⟨k, ys, rfl, hk, hp, hmx, ⟨G, hp⟩, hs'⟩
  revert t; refine sls_all ?_; iterate 57 intro uu'
  refine sw_takeG hp ?_; clear hp
  have hyl : ys.length = n := by rw [hp.len]; exact hn
  have hoy : ∀ x ∈ ys, (encQ x).all one? = true := fun x hx => hone x (hp.mem.1 hx)
  have hcy : CmpBy Tryz.prog r gf encQ key ys := CmpBy.of hcmp fun x hx => hp.mem.1 hx
  by_cases hlt : k * 20 + 20 ≤ n
  · have hc := insertQ_any r B c gf key ys n (k * 20) (k * 20 + 20) _ _ hyl rfl rfl (by omega) hlt hl hg hoy hcy
    repeat' (first | (refine acl Tryz.func112 ?_; refine acr (hc) ?_; rintro v' H' ⟨zs, ⟨hz, hzu⟩, rfl⟩; all_goals refine apl ?_) | (exfalso; first | contradiction | omega) | refine aw0 ?_ | (refine ap2 ?_ ?_ <;> try intro h) | refine aw1 ?_ | (refine abx ?_; intro bb) | (refine abz ?_; intro bz) | (refine ahv ?_; intro v' hv') | (refine aac ?_; intro ac cc) | refine aw2 ?_ | (refine ap4 ?_ ?_ <;> try intro h) | apply True.intro)
    exact ⟨_, by omega, k + 1, zs, rfl, by omega, hp.trans (hz.wide (Nat.zero_le _) hlt (by omega)), mixed_next hmx (by omega) (by omega) hz hzu, ⟨_, atks⟩, asls⟩
  · have hc := insertQ_any r B c gf key ys n (k * 20) n _ n hyl rfl rfl (by omega) (Nat.le_refl _) hl hg hoy hcy
    repeat' (first | (refine acl Tryz.func112 ?_; refine acr (hc) ?_; rintro v' H' ⟨zs, ⟨hz, hzu⟩, rfl⟩; all_goals refine apl ?_) | (exfalso; first | contradiction | omega) | refine aw0 ?_ | (refine ap2 ?_ ?_ <;> try intro h) | refine aw1 ?_ | (refine abx ?_; intro bb) | (refine abz ?_; intro bz) | (refine ahv ?_; intro v' hv') | (refine aac ?_; intro ac cc) | refine aw2 ?_ | (refine ap4 ?_ ?_ <;> try intro h) | apply True.intro)
    have hbz : Blocks key 20 zs := mixed_last hmx (by omega) (by omega) hz hzu
    have hpz : Part key 0 n xs zs := hp.trans (hz.wide (Nat.zero_le _) (Nat.le_refl _) (by omega))
    clear hc hmx hoy hcy hyl hp hz hzu
    refine sw_loop (fun gm t H' => ∃ (m : Nat) (ws : List QuV), gm = n + 1 - m ∧ (20 ≤ m) ∧ (m < 2 * n + 40) ∧ (Part key 0 n xs ws) ∧ (Blocks key m ws) ∧ (∃ G, Takes [RowC 27 3 (.slice (some ⟨B, 0, none⟩) n c) n (ws.flatMap encQ)] H' G) ∧ Sls t 63 [(0, .slice (some ⟨B, 0, none⟩) n c), (1, .int .i64 n), (2, .func (.func gf) #[] #[]), (6, .int .i64 m)]) _ ⟨20, zs, rfl, Nat.le_refl _, by omega, hpz, hbz, ⟨_, atks⟩, asls⟩ ?_
    rintro gm t H' ⟨m, ws, rfl, hm, hm2, hpw, hbw, ⟨G, hp⟩, hs'⟩
    revert t; refine sls_all ?_; iterate 59 intro uu'
    refine sw_takeG hp ?_; clear hp
    have hwl : ws.length = n := by rw [hpw.len]; exact hn
    by_cases hmn : m < n
    · repeat' (first | (exfalso; first | contradiction | omega) | refine aw0 ?_ | (refine ap2 ?_ ?_ <;> try intro h) | refine aw1 ?_ | (refine abx ?_; intro bb) | (refine abz ?_; intro bz) | (refine ahv ?_; intro v' hv') | (refine aac ?_; intro ac cc) | refine aw2 ?_ | (refine ap4 ?_ ?_ <;> try intro h) | apply True.intro)
      refine sw_loop (fun gm t H' => ∃ (q a : Nat) (vs : List QuV), gm = n + 1 - a ∧ (q * (2 * m) = a) ∧ (a ≤ n) ∧ (Part key 0 n xs vs) ∧ (Mixed key (2 * m) m q vs) ∧ (∃ G, Takes [RowC 27 3 (.slice (some ⟨B, 0, none⟩) n c) n (vs.flatMap encQ)] H' G) ∧ Sls t 63 [(0, .slice (some ⟨B, 0, none⟩) n c), (1, .int .i64 n), (2, .func (.func gf) #[] #[]), (6, .int .i64 m), (7, .int .i64 a), (8, .int .i64 ((a : Int) + 2 * m))]) _ ⟨0, 0, ws, rfl, Nat.zero_mul _, Nat.zero_le _, hpw, mixed_start hbw, ⟨_, atks⟩, asls⟩ ?_
      rintro gm t H' ⟨q, a, vs, rfl, hqa, ha, hpv, hmv, ⟨G, hp⟩, hs'⟩
      revert t; refine sls_all ?_; iterate 57 intro uu'
      refine sw_takeG hp ?_; clear hp
      have hvl : vs.length = n := by rw [hpv.len]; exact hn
      have hov : ∀ x ∈ vs, (encQ x).all one? = true := fun x hx => hone x (hpv.mem.1 hx)
      have hcv : CmpBy Tryz.prog r gf encQ key vs := CmpBy.of hcmp fun x hx => hpv.mem.1 hx
      obtain ⟨t1, t2⟩ := mixed_two hmv
      have hnx := fun zs => mixed_next (k := q) (zs := zs) hmv (by omega) (by omega)
      have hls := fun zs b => mixed_last (zs := zs) (b := b) hmv
      rw [hqa] at t1 t2 hnx hls
      have hq1 : (q + 1) * (2 * m) = a + 2 * m := by rw [Nat.add_mul, Nat.one_mul, hqa]
      clear hmv hqa
      by_cases hlt : a + 2 * m ≤ n
      · have hc := symQ_all r B c gf key n hl hg n vs a (a + m) (a + 2 * m) a ((a : Int) + m) ((a : Int) + 2 * m) hvl rfl (by omega) (by omega) (by omega) (by omega) hlt (by omega) hov hcv t1 t2
        repeat' (first | (refine acl Tryz.func113 ?_; refine acr (hc) ?_; rintro v' H' ⟨zs, ⟨hz, hzu⟩, rfl⟩; all_goals refine apl ?_) | (exfalso; first | contradiction | omega) | refine aw0 ?_ | (refine ap2 ?_ ?_ <;> try intro h) | refine aw1 ?_ | (refine abx ?_; intro bb) | (refine abz ?_; intro bz) | (refine ahv ?_; intro v' hv') | (refine aac ?_; intro ac cc) | refine aw2 ?_ | (refine ap4 ?_ ?_ <;> try intro h) | apply True.intro)
        exact ⟨_, by omega, q + 1, a + 2 * m, zs, rfl, hq1, hlt, hpv.trans (hz.wide (Nat.zero_le _) hlt (by omega)), hnx zs hz hzu, ⟨_, atks⟩, asls⟩
      · by_cases hlm : a + m < n
        · have hc := symQ_all r B c gf key n hl hg n vs a (a + m) n a ((a : Int) + m) n hvl rfl (by omega) rfl (by omega) hlm (Nat.le_refl _) (by omega) hov hcv t1 (t2.sub (Nat.le_refl _) (by omega))
          repeat' (first | (refine acl Tryz.func113 ?_; refine acr (hc) ?_; rintro v' H' ⟨zs, ⟨hz, hzu⟩, rfl⟩; all_goals refine apl ?_) | (exfalso; first | contradiction | omega) | refine aw0 ?_ | (refine ap2 ?_ ?_ <;> try intro h) | refine aw1 ?_ | (refine abx ?_; intro bb) | (refine abz ?_; intro bz) | (refine ahv ?_; intro v' hv') | (refine aac ?_; intro ac cc) | refine aw2 ?_ | (refine ap4 ?_ ?_ <;> try intro h) | apply True.intro)
          exact ⟨_, by omega, m * 2, zs, rfl, by omega, by omega, hpv.trans (hz.wide (Nat.zero_le _) (Nat.le_refl _) (by omega)), (by rw [Nat.mul_comm]; exact hls zs n (by omega) (by omega) hz hzu), ⟨_, atks⟩, asls⟩
        · repeat' (first | (exfalso; first | contradiction | omega) | refine aw0 ?_ | (refine ap2 ?_ ?_ <;> try intro h) | refine aw1 ?_ | (refine abx ?_; intro bb) | (refine abz ?_; intro bz) | (refine ahv ?_; intro v' hv') | (refine aac ?_; intro ac cc) | refine aw2 ?_ | (refine ap4 ?_ ?_ <;> try intro h) | apply True.intro)
          exact ⟨_, by omega, m * 2, vs, rfl, by omega, by omega, hpv, (by rw [Nat.mul_comm]; exact hls vs n (by omega) (by omega) (Part.refl ha (by omega)) (t1.sub (Nat.le_refl _) (by omega))), ⟨_, atks⟩, asls⟩
    · repeat' (first | (exfalso; first | contradiction | omega) | refine aw0 ?_ | (refine ap2 ?_ ?_ <;> try intro h) | refine aw1 ?_ | (refine abx ?_; intro bb) | (refine abz ?_; intro bz) | (refine ahv ?_; intro v' hv') | (refine aac ?_; intro ac cc) | refine aw2 ?_ | (refine ap4 ?_ ?_ <;> try intro h) | apply True.intro)
      ((with_reducible apply fp_end); exact res_0 rfl)
      exact HR.out _ _ _ [_] (by (exact atks)) ⟨ws, ⟨hpw.same, by have h := blocks_all hbw (by omega); rw [hwl] at h; exact h⟩, rfl⟩
set_option maxHeartbeats 1000000 in
theorem insert0Q_any (r : Hp) (v fv : Value) : Tri Tryz.prog r 112 [v, .int .i64 0, .int .i64 0, fv] [] fun _ H => H = [] := by
  refine Tri.free2 fun R HR => ?_
  refine fn_of_sw Tryz.func112 rfl _ rfl ?_; refine aen Tryz.ntmps112 ?_
  repeat' (first | refine aw0m ?_ | (refine ap2 ?_ ?_ <;> try intro h) | refine aw1m ?_ | (refine abx ?_; intro bb) | (refine abz ?_; intro bz) | (refine ahv ?_; intro v' hv') | (refine aac ?_; intro ac cc) | refine aw2 ?_ | (refine ap4 ?_ ?_ <;> try intro h) | apply True.intro)
  refine sw_loop (fun gm t H' => gm = 0 ∧ (∃ G, Takes [] H' G) ∧ Sls t 53 [(0, v), (1, .int .i64 0), (2, .int .i64 0), (3, fv), (8, .int .i64 1)]) _ ⟨rfl, ⟨_, atks⟩, asls⟩ ?_
  rintro gm t H' ⟨rfl, ⟨G, hp⟩, hs'⟩
  revert t; refine sls_all ?_; iterate 48 intro uu'
  refine sw_takeG hp ?_; clear hp
  repeat' (first | (exfalso; first | contradiction | omega) | refine aw0 ?_ | (refine ap2 ?_ ?_ <;> try intro h) | refine aw1 ?_ | (refine abx ?_; intro bb) | (refine abz ?_; intro bz) | (refine ahv ?_; intro v' hv') | (refine aac ?_; intro ac cc) | refine aw2 ?_ | (refine ap4 ?_ ?_ <;> try intro h) | apply True.intro)
  ((with_reducible apply fp_end); exact res_0 rfl)
  exact HR.out _ _ _ [] (by (exact atks)) rfl
set_option maxHeartbeats 1000000 in
theorem stable0Q_any (r : Hp) (v fv : Value) : Tri Tryz.prog r 83 [v, .int .i64 0, fv] [] fun _ H => H = [] := by
  have hc := insert0Q_any r v fv
  refine Tri.free2 fun R HR => ?_
  refine fn_of_sw Tryz.func83 rfl _ rfl ?_; refine aen Tryz.ntmps83 ?_
  repeat' (first | refine aw0m ?_ | (refine ap2 ?_ ?_ <;> try intro h) | refine aw1m ?_ | (refine abx ?_; intro bb) | (refine abz ?_; intro bz) | (refine ahv ?_; intro v' hv') | (refine aac ?_; intro ac cc) | refine aw2 ?_ | (refine ap4 ?_ ?_ <;> try intro h) | apply True.intro)
  refine sw_loop (fun gm t H' => gm = 0 ∧ (∃ G, Takes [] H' G) ∧ Sls t 63 [(0, v), (1, .int .i64 0), (2, fv), (6, .int .i64 20), (7, .int .i64 0), (8, .int .i64 20)]) _ ⟨rfl, ⟨_, atks⟩, asls⟩ ?_
  rintro gm t H' ⟨rfl, ⟨G, hp⟩, hs'⟩
  revert t; refine sls_all ?_; iterate 57 intro uu'
  refine sw_takeG hp ?_; clear hp
  repeat' (first | (refine acl Tryz.func112 ?_; refine acr (hc) ?_; rintro v' H' rfl; all_goals refine apl ?_) | (exfalso; first | contradiction | omega) | refine aw0 ?_ | (refine ap2 ?_ ?_ <;> try intro h) | refine aw1 ?_ | (refine abx ?_; intro bb) | (refine abz ?_; intro bz) | (refine ahv ?_; intro v' hv') | (refine aac ?_; intro ac cc) | refine aw2 ?_ | (refine ap4 ?_ ?_ <;> try intro h) | apply True.intro)
  refine sw_loop (fun gm t H' => gm = 0 ∧ (∃ G, Takes [] H' G) ∧ Sls t 63 [(0, v), (1, .int .i64 0), (2, fv), (6, .int .i64 20)]) _ ⟨rfl, ⟨_, atks⟩, asls⟩ ?_
  rintro gm t H' ⟨rfl, ⟨G, hp⟩, hs'⟩
  revert t; refine sls_all ?_; iterate 59 intro uu'
  refine sw_takeG hp ?_; clear hp
  repeat' (first | (exfalso; first | contradiction | omega) | refine aw0 ?_ | (refine ap2 ?_ ?_ <;> try intro h) | refine aw1 ?_ | (refine abx ?_; intro bb) | (refine abz ?_; intro bz) | (refine ahv ?_; intro v' hv') | (refine aac ?_; intro ac cc) | refine aw2 ?_ | (refine ap4 ?_ ?_ <;> try intro h) | apply True.intro)
  ((with_reducible apply fp_end); exact res_0 rfl)
  exact HR.out _ _ _ [] (by (exact atks)) rfl
set_option maxRecDepth 10000 in
set_option maxHeartbeats 8000000 in
theorem sortStableQ_tri (r : Hp) (a : Option Addr) (c : Nat) (gf : FuncId) (key : QuV → Tx) (xs : List QuV) (hl : xs.length ≤ 10000000) (hg : GoesTo Tryz.prog gf) (hone : ∀ x ∈ xs, (encQ x).all one? = true) (hcmp : CmpBy Tryz.prog r gf encQ key xs) : Tri Tryz.prog r 57 [.slice a xs.length c, .func (.func gf) #[] #[]] [RowC 27 3 (.slice a xs.length c) xs.length (xs.flatMap encQ)] fun _ H => ∃ zs, (SameK key zs xs ∧ UpIn key 0 xs.length zs) ∧ H = [RowC 27 3 (.slice a xs.length c) xs.length (zs.flatMap encQ)] := by
  by_cases h0 : 0 < xs.length
  · refine tri_rowF (args := fun a c => [.slice a xs.length c, .func (.func gf) #[] #[]]) h0 fun B ha => ?_
    subst ha
    have hc := stableQ_any r B c gf key xs xs.length xs.length rfl rfl hl hg hone hcmp
    refine Tri.free2 fun R HR => ?_
    refine fn_of_sw Tryz.func57 rfl _ rfl ?_; refine aen Tryz.ntmps57 ?_
    repeat' (first | (refine acl Tryz.func83 ?_; refine acr (hc) ?_; rintro v' H' ⟨zs, hz, rfl⟩; all_goals refine apl ?_) | (exfalso; first | contradiction | omega) | refine aw0 ?_ | (refine ap2 ?_ ?_ <;> try intro h) | refine aw1 ?_ | (refine abx ?_; intro bb) | (refine abz ?_; intro bz) | (refine ahv ?_; intro v' hv') | (refine aac ?_; intro ac cc) | refine aw2 ?_ | (refine ap4 ?_ ?_ <;> try intro h) | apply True.intro)
    ((with_reducible apply fp_end); exact res_0 rfl)
    exact HR.out _ _ _ [_] (by (exact atks)) ⟨zs, hz, rfl⟩
  · have hx : xs = [] := List.length_eq_zero_iff.1 (by omega)
    subst hx
    have hc := stable0Q_any r (.slice a 0 c) (.func (.func gf) #[] #[])
    refine Tri.free2 fun R HR => ?_
    refine fn_of_sw Tryz.func57 rfl _ rfl ?_; refine aen Tryz.ntmps57 ?_
    repeat' (first | (refine acl Tryz.func83 ?_; refine acr (hc) ?_; rintro v' H' rfl; all_goals refine apl ?_) | (exfalso; first | contradiction | omega) | refine aw0 ?_ | (refine ap2 ?_ ?_ <;> try intro h) | refine aw1 ?_ | (refine abx ?_; intro bb) | (refine abz ?_; intro bz) | (refine ahv ?_; intro v' hv') | (refine aac ?_; intro ac cc) | refine aw2 ?_ | (refine ap4 ?_ ?_ <;> try intro h) | apply True.intro)
    ((with_reducible apply fp_end); exact res_0 rfl)
    exact HR.out _ _ _ [_] (by (exact atks)) ⟨[], ⟨SameK.refl _, UpIn.one (by simp)⟩, rfl⟩
end Go.Proofs.YtdccjfabdfgomaaGreatDoor
