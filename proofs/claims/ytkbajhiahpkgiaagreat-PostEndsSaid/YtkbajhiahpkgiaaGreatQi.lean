
/- mudlarkref19.Get: its contract. -/
import Derived.Test.YtkbajhiahpkgiaaGreatQh
import Derived.Test.YtkbajhiahpkgiaaGreatQf
import Derived.Test.YtkbajhiahpkgiaaGreatGp
namespace Go.Proofs.YtkbajhiahpkgiaaGreat
open Go.RowKit Sx

/-- What the document's Get reads: none, if a text is too short. -/
def gets19 (size : Nat) : Nat → Stt → Option (List PostP × Stt)
  | 0, st => some ([], st)
  | _ + 1, none => some ([], none)
  | k + 1, some l => if (textR size (some l)).1.length < 3 then none else (gets19 size k (textR size (some l)).2).map fun q => (((textR size (some l)).1.take 3, read19 (textR size (some l)).1) :: q.1, q.2)
theorem gets19_none (size k : Nat) : gets19 size k none = some ([], none) := by cases k <;> rfl
theorem gets19_of (size : Nat) : ∀ (k : Nat) (st : Stt) (ps : List PostP) (x : List UInt8), getsR size k st = (ps, some x) → ps.length = k → gets19 size k st = some (ps, some x)
  | 0, st, ps, x, h, _ => by
    simp only [getsR, Prod.mk.injEq] at h
    obtain ⟨rfl, rfl⟩ := h
    rfl
  | k + 1, none, ps, x, h, hl => by
    have e : (textR size none) = ([], none) := rfl
    unfold getsR at h
    rw [e, show readR [] = none from rfl] at h
    cases h
  | k + 1, some l, ps, x, h, hl => by
    unfold getsR at h
    unfold gets19
    generalize textR size (some l) = T at h ⊢
    cases hr : readR T.1 with
    | none =>
      rw [hr] at h
      obtain ⟨rfl, _⟩ := Prod.mk.inj h
      cases hl
    | some p =>
      rw [hr] at h
      dsimp only at h
      obtain ⟨rfl, h2⟩ := Prod.mk.inj h
      have h3 : ¬ T.1.length < 3 := fun c => by unfold readR at hr; rw [if_pos c] at hr; cases hr
      rw [if_neg h3, gets19_of size k T.2 _ x (Prod.ext rfl h2) (by simpa using hl), ← read19_eq hr]
      rfl
theorem gets19_getP {b : List UInt8} {ps : List PostP} (h : getP b = some ps) : gets19 b.length (numR b.length (some b)).1 (numR b.length (some b)).2 = some (ps, some []) := by
  unfold getP at h
  dsimp only at h
  split at h
  · rename_i c
    injection h with h
    subst h
    exact gets19_of _ _ _ _ _ (Prod.ext rfl c.1) c.2.1
  · cases h
set_option maxRecDepth 10000 in
set_option maxHeartbeats 8000000 in
theorem rget19_any (r : Hp) (v : Value) (b : List UInt8) (hv : U8S r v b) (hb : b.length ≤ 10000) : Tri Tryz.prog r 17 [v] [] fun w H => ∃ a c, w = .tuple #[.slice a ((getP b).getD []).length c, .int .i64 (if (getP b).isSome then 0 else 9)] ∧ H = [PostC 53 56 (.slice a ((getP b).getD []).length c) ((getP b).getD [])] := by
  refine Tri.free2 fun R HR => ?_
  obtain ⟨N, s0, hNs⟩ : ∃ N s0, numR b.length (some b) = (N, s0) := ⟨_, _, rfl⟩
  have hN : N ≤ b.length := by have h := numR_most b.length (some b); rw [hNs] at h; exact h
  have hn := fun g => rnumR_any r g v b 0 false b.length hv (by omega) (Nat.zero_le _)
  rw [show refSt b 0 false = some b from rfl, hNs] at hn
  dsimp only at hn
  have hgp := fun ps (h : getP b = some ps) => gets19_getP h
  rw [hNs] at hgp
  dsimp only at hgp
  clear hNs
  have hto := fun g at2 h => rtextR_any r g v b at2 false b.length hv (by omega) h
  have htl := textR_len b.length
  refine fn_of_sw Tryz.func17 rfl _ rfl ?_; refine aen Tryz.ntmps17 ?_
  refine sw_put (A := PostC 53 56 (.slice none 0 0) []) ⟨[], rfl, all_one.2 (RowC.nil _ _)⟩ ?_
  refine sw_put (A := RowC 53 2 (.slice none 0 0) 0 []) (RowC.nil _ _) ?_
  refine sw_put (A := all (rowsC 56 [])) rfl ?_
  repeat' (first | (refine acl Tryz.func48 ?_; refine acr (hn _) ?_; rintro v' H' ⟨rfl, at1, bad1, hat1, hs1, rfl⟩; all_goals refine apl ?_) | refine aw0 ?_ | (refine ap2 ?_ ?_ <;> try intro h) | refine aw1 ?_ | (refine abx ?_; intro bb) | (refine abz ?_; intro bz) | (refine ahv ?_; intro v' hv') | (refine aac ?_; intro ac cc) | refine aw2 ?_ | (refine ap4 ?_ ?_ <;> try intro h) | apply True.intro)
  subst hs1
  refine sw_loop (fun gm t H' => ∃ (i : Nat) (Z : List PZ) (at2 : Nat) (bad2 : Bool) (a : Option Addr) (c : Nat), gm = N + 1 - i ∧ (i ≤ N) ∧ (Z.length = i) ∧ (at2 ≤ b.length) ∧ (gets19 b.length N (refSt b at1 bad1) = (gets19 b.length (N - i) (refSt b at2 bad2)).map fun q => (Z.map (·.1) ++ q.1, q.2)) ∧ (∀ z ∈ Z, z.1.2.length ≤ 10000) ∧ (∃ G, Takes [pt bb (rrd v at2 bad2), RowC 53 2 (.slice a i c) i (Z.flatMap encZ), all (rowsC 56 Z), PostC 53 56 (.slice none 0 0) []] H' G) ∧ Sls t 71 [(0, v), (4, .pointer (some ⟨bb, 0, none⟩)), (5, .int .i64 N), (6, .slice a i c), (7, .int .i64 i)]) _ ⟨0, [], at1, bad1, none, 0, rfl, Nat.zero_le _, rfl, hat1, by simp, (fun z h => by cases h), ⟨[], atks⟩, asls⟩ ?_
  rintro gm t H' ⟨i, Z, at2, bad2, a, c, rfl, hi, hZ, hat, hG, hpl, ⟨G, hp⟩, hs'⟩
  revert t; refine sls_all ?_; iterate 66 intro uu'
  refine sw_takeG hp ?_; clear hp
  by_cases hgo : i < N ∧ bad2 = false
  · obtain ⟨hlt, rfl⟩ := hgo
    have hge : gets19 b.length (N - i) (refSt b at2 false) = if (textR b.length (refSt b at2 false)).1.length < 3 then none else (gets19 b.length (N - (i + 1)) (textR b.length (refSt b at2 false)).2).map fun q => (((textR b.length (refSt b at2 false)).1.take 3, read19 (textR b.length (refSt b at2 false)).1) :: q.1, q.2) := by
      rw [show N - i = (N - (i + 1)) + 1 by omega]; rfl
    have h1 := hto bb at2 hat
    have hT := htl (refSt b at2 false)
    rw [hge] at hG
    clear hge
    generalize (textR b.length (refSt b at2 false)).1 = T at hG h1 hT
    generalize (textR b.length (refSt b at2 false)).2 = s1 at hG h1
    by_cases h3 : T.length < 3
    · rw [if_pos h3] at hG
      have hgb : getP b = none := by
        cases hp : getP b with
        | none => rfl
        | some ps => rw [hgp ps hp] at hG; cases hG
      rw [hgb] at HR
      repeat' (first | (refine acl Tryz.func49 ?_; refine acr (h1) ?_; rintro v' H' ⟨a3, c3, at3, bad3, rfl, hat3, hs3, rfl⟩; all_goals refine apl ?_) | (exfalso; first | contradiction | omega) | refine aw0 ?_ | (refine ap2 ?_ ?_ <;> try intro h) | refine aw1 ?_ | (refine abx ?_; intro bb) | (refine abz ?_; intro bz) | (refine ahv ?_; intro v' hv') | (refine aac ?_; intro ac cc) | refine aw2 ?_ | (refine ap4 ?_ ?_ <;> try intro h) | apply True.intro)
      ((with_reducible apply fp_ret); exact res_2 rfl rfl rfl)
      exact HR.out _ _ _ [PostC 53 56 (.slice none 0 0) []] (by (exact atks)) ⟨none, 0, rfl, rfl⟩
    · rw [if_neg h3] at hG
      have hrl := read19_len T
      repeat' (first | (refine acl Tryz.func49 ?_; refine acr (h1) ?_; rintro v' H' ⟨a3, c3, at3, bad3, rfl, hat3, hs3, rfl⟩; all_goals refine apl ?_) | ((with_reducible apply sw_freezeT (A := U8R (.slice a3 T.length c3) T)); (with_reducible (exact atk)); intro r3 g3 hr3 hg3 hA3; have hvT := hA3.sl hg3) | (refine acl Tryz.func50 ?_; refine acr (rplaces_any r3 _ _ T hvT (by omega) (by omega)) ?_; rintro v' H' ⟨a4, c4, rfl, rfl⟩; all_goals refine apl ?_) | ((with_reducible apply sw_joinA (c := .region 11 _ _) (As := [all (rowsC 56 Z), RowC 56 2 (.slice a4 (read19 T).length c4) (read19 T).length ((read19 T).flatMap encPl)]) (D := all (rowsC 56 (Z ++ [((T.take 3, read19 T), .slice a4 (read19 T).length c4)])))); (with_reducible (exact atks)); (intro h' e; exact rows_snoc (z := ((T.take 3, read19 T), .slice a4 (read19 T).length c4)) h' e)) | (first | ((with_reducible apply kx_bs1); exact ty_el; exact ty_inf; rfl; rfl; rfl; intro bz; (refine apk ?_)) | ((with_reducible apply kx_bsN); exact ty_el; exact ty_inf; rfl; rfl; rfl; intro bz; (refine apk ?_))) | (first | ((with_reducible apply kx_append1); exact ty_el; exact ty_inf; rfl; rfl; rfl; (exact atk); (exact atk); rfl; omega; intro a' c'; (refine apk ?_)) | ((with_reducible apply kx_appendN); exact ty_el; exact ty_inf; rfl; rfl; rfl; rfl; (exact atk); (exact atk); rfl; rfl; omega; intro a' c'; (refine apk ?_))) | (exfalso; first | contradiction | omega) | refine aw0 ?_ | (refine ap2 ?_ ?_ <;> try intro h) | refine aw1 ?_ | (refine abx ?_; intro bb) | (refine abz ?_; intro bz) | (refine ahv ?_; intro v' hv') | (refine aac ?_; intro ac cc) | refine aw2 ?_ | (refine ap4 ?_ ?_ <;> try intro h) | apply True.intro)
      subst hs3
      exact ⟨_, by omega, i + 1, Z ++ [((T.take 3, read19 T), .slice a4 (read19 T).length c4)], at3, bad3, a', c', rfl, by omega, by rw [List.length_append, hZ]; rfl, hat3, by
        rw [hG, Option.map_map]
        congr 1
        funext q
        simp, (fun z h => by
        rcases List.mem_append.1 h with h | h
        · exact hpl z h
        · obtain rfl := List.mem_singleton.1 h
          show (read19 T).length ≤ 10000
          omega), ⟨_, by rw [List.flatMap_append]; (exact atks)⟩, asls⟩
  · have hGl : (Z.map (·.1)).length = i := by rw [List.length_map, hZ]
    have hput := fun rx gx (hA : PZC 53 56 (.slice a i c) Z gx) (hs : sub gx rx) => rput19_any rx (.slice a i c) (Z.map pvZ) (pzc_posts hA hs hZ).2 (fun x hx => by
      obtain ⟨z, hz, rfl⟩ := List.mem_map.1 hx
      exact hpl z hz) (by rw [List.length_map]; omega)
    rw [pvZ_un Z] at hput
    have hjoin : ∀ h', all [RowC 53 2 (.slice a i c) i (Z.flatMap encZ), all (rowsC 56 Z)] h' → PZC 53 56 (.slice a i c) Z h' := fun h' e => by
      rw [← hZ] at e ⊢
      exact (all_fold (L1 := [_]) (L2 := rowsC 56 Z)).1 e
    have hpc : ∀ h', all [PZC 53 56 (.slice a i c) Z] h' → PostC 53 56 (.slice a i c) (Z.map (·.1)) h' := fun h' e => ⟨Z, rfl, all_one.1 e⟩
    generalize hGz : Z.map (·.1) = G at hG hput hpc hGl
    obtain ⟨B, e, hBe⟩ : ∃ B e, putE G = (B, e) := ⟨_, _, rfl⟩
    rw [hBe] at hput
    dsimp only at hput
    have hres : getP b = if bad2 = false ∧ e = 0 ∧ B = b then some G else none := by
      unfold putE at hBe
      by_cases hbad : bad2 = false
      · subst hbad
        obtain rfl : i = N := by
          have : ¬ i < N := fun h => hgo ⟨h, rfl⟩
          omega
        rw [Nat.sub_self] at hG
        simp only [gets19, Option.map_some, List.append_nil] at hG
        by_cases hok : postsOk [] G = true
        · rw [if_pos hok] at hBe
          obtain ⟨rfl, rfl⟩ := Prod.mk.inj hBe
          by_cases hB : putB G = b
          · rw [if_pos ⟨rfl, rfl, hB⟩, ← hB]
            exact getP_put hok (by rw [hB]; unfold maxNum; omega)
          · rw [if_neg (fun h => hB h.2.2)]
            cases hp : getP b with
            | none => rfl
            | some ps =>
              have h2 := hgp ps hp
              rw [hG] at h2
              injection h2 with h2
              obtain ⟨rfl, _⟩ := Prod.mk.inj h2
              exact absurd (getP_inv hp).1 hB
        · rw [if_neg hok] at hBe
          obtain ⟨rfl, rfl⟩ := Prod.mk.inj hBe
          rw [if_neg (fun h => by cases h.2.1)]
          cases hp : getP b with
          | none => rfl
          | some ps =>
            have h2 := hgp ps hp
            rw [hG] at h2
            injection h2 with h2
            obtain ⟨rfl, _⟩ := Prod.mk.inj h2
            exact absurd (getP_inv hp).2 hok
      · rw [if_neg (fun h => hbad h.1)]
        cases hp : getP b with
        | none => rfl
        | some ps =>
          have h2 := hgp ps hp
          rw [show bad2 = true by simpa using hbad, show refSt b at2 true = none from rfl, gets19_none] at hG
          rw [hG] at h2
          simp at h2
    by_cases hall : bad2 = false ∧ e = 0 ∧ B = b
    · obtain ⟨rfl, rfl, rfl⟩ := hall
      rw [if_pos ⟨rfl, rfl, rfl⟩] at hres
      rw [hres] at HR
      subst hGl
      repeat' (first | ((with_reducible apply sw_joinA (c := .region 12 _ _) (As := [RowC 53 2 (.slice a G.length c) G.length (Z.flatMap encZ), all (rowsC 56 Z)]) (D := PZC 53 56 (.slice a G.length c) Z)); (with_reducible (exact atks)); (exact hjoin)) | ((with_reducible apply kx_lendC (A := PZC 53 56 (.slice a G.length c) Z)); (exact atk); intro rx gx hrx hgx hAx; (refine acl Tryz.func25 ?_; refine acr (hput rx gx hAx hgx) ?_; rintro v' H' ⟨a5, c5, rfl, rfl⟩; all_goals refine apl ?_)) | ((with_reducible apply sw_joinA (c := .region 15 _ _) (As := [PZC 53 56 (.slice a G.length c) Z]) (D := PostC 53 56 (.slice a G.length c) G)); (with_reducible (exact atks)); (exact hpc)) | (exfalso; first | contradiction | omega | exact hgo ⟨by omega, rfl⟩) | refine aw0 ?_ | (refine ap2 ?_ ?_ <;> try intro h) | refine aw1 ?_ | (refine abx ?_; intro bb) | (refine abz ?_; intro bz) | (refine ahv ?_; intro v' hv') | (refine aac ?_; intro ac cc) | refine aw2 ?_ | (refine ap4 ?_ ?_ <;> try intro h) | apply True.intro)
      ((with_reducible apply fp_ret); exact res_2 rfl rfl rfl)
      exact HR.out _ _ _ [PostC 53 56 (.slice a G.length c) G] (by (exact atks)) ⟨a, c, rfl, rfl⟩
    · rw [if_neg hall] at hres
      rw [hres] at HR
      cases bad2
      all_goals
       repeat' (first | ((with_reducible apply sw_joinA (c := .region 12 _ _) (As := [RowC 53 2 (.slice a i c) i (Z.flatMap encZ), all (rowsC 56 Z)]) (D := PZC 53 56 (.slice a i c) Z)); (with_reducible (exact atks)); (exact hjoin)) | ((with_reducible apply kx_lendC (A := PZC 53 56 (.slice a i c) Z)); (exact atk); intro rx gx hrx hgx hAx; (refine acl Tryz.func25 ?_; refine acr (hput rx gx hAx hgx) ?_; rintro v' H' ⟨a5, c5, rfl, rfl⟩; all_goals refine apl ?_)) | (exfalso; first | contradiction | omega | exact hgo ⟨by omega, rfl⟩ | exact hall ⟨rfl, by assumption, by assumption⟩) | refine aw0 ?_ | (refine ap2 ?_ ?_ <;> try intro h) | refine aw1 ?_ | (refine abx ?_; intro bb) | (refine abz ?_; intro bz) | (refine ahv ?_; intro v' hv') | (refine aac ?_; intro ac cc) | refine aw2 ?_ | (refine ap4 ?_ ?_ <;> try intro h) | apply True.intro)
      all_goals (((with_reducible apply fp_ret); exact res_2 rfl rfl rfl); exact HR.out _ _ _ [PostC 53 56 (.slice none 0 0) []] (by (exact atks)) ⟨none, 0, rfl, rfl⟩)
end Go.Proofs.YtkbajhiahpkgiaaGreat
