
/- QueryMeans: its contract. -/
import Derived.Test.YtgodcegaffgfjaaDoorVp
namespace Go.Proofs.YtgodcegaffgfjaaDoor
open Go.RowKit Sx

theorem mg_els {r g : Hp} {a : Option Addr} {c : Nat} {ms gs : List Tx} (h : RowC 9 1 (.slice a (0 + ms.length + gs.length) c) (0 + ms.length + gs.length) (ms.flatMap encTx ++ gs.flatMap encTx) g) (hs : sub g r) : Els r 1 encTx (.slice a (0 + ms.length + gs.length) c) (ms ++ gs) := by
  have e : (ms ++ gs).length = 0 + ms.length + gs.length := by rw [List.length_append]; omega
  refine ⟨fun _ => rfl, ?_⟩
  rw [e, List.flatMap_append]
  exact h.sl hs
theorem more_sat {ms gs : List Tx} {q : Qu} (h : satQ (hasT gs) q = true) : satQ (hasT (ms ++ gs)) q = true := by
  refine sat_mono (fun g hg => ?_) q h
  unfold hasT at hg ⊢
  rw [Bool.and_eq_true, decide_eq_true_eq] at hg ⊢
  exact ⟨List.mem_append_right _ hg.1, hg.2⟩
set_option maxRecDepth 10000 in
set_option maxHeartbeats 16000000 in
theorem means_any (r : Hp) (hT : TabR r) (v gv mv : Value) (l : List QuV) (gs ms : List Tx) (hv : Els r 3 encQ v l) (hl : ∀ q ∈ l, QuR r q) (hg : Els r 1 encTx gv gs) (hm : Els r 1 encTx mv ms) (hs : sizeQs (l.map QuV.key) ≤ 2000000) (hsg : sizeT gs ≤ 2000000) (hsm : sizeT ms ≤ 2000000) : Tri Tryd.prog r 3 [v, gv, mv] [] fun w H => w = .bool true ∧ H = [] := by
  have hlm := maxI hv.2.2.1
  have hln := sizeQs_len (l.map QuV.key)
  rw [List.length_map] at hln
  have hgl := sizeT_len gs
  have hml := sizeT_len ms
  have haw := awake16_any r hT
  have hcq := queriesOf_any r v l 400 hv hl (by omega) (by omega)
  have hcg := textsOf_any r gv gs 400 hg (by omega) (by omega)
  have hcm := textsOf_any r mv ms 400 hm (by omega) (by omega)
  refine Tri.free2 fun R HR => ?_
  refine fn_of_sw Tryd.func3 rfl _ rfl ?_; refine aen Tryd.ntmps3 ?_
  repeat' (first | (refine acl Tryd.func5 ?_; refine acr (haw) ?_; rintro v' H' ⟨rfl, rfl⟩; all_goals refine apl ?_) | (refine acl Tryd.func6 ?_; refine acr (hcq) ?_; rintro v' H' ⟨⟨n1, rfl, hn1⟩, rfl⟩; all_goals refine apl ?_) | (refine acl Tryd.func7 ?_; refine acr (hcg) ?_; rintro v' H' ⟨⟨n2, rfl, hn2⟩, rfl⟩; all_goals refine apl ?_) | (refine acl Tryd.func7 ?_; refine acr (hcm) ?_; rintro v' H' ⟨⟨n3, rfl, hn3⟩, rfl⟩; all_goals refine apl ?_) | (exfalso; first | contradiction | omega) | refine aw0 ?_ | (refine ap2 ?_ ?_ <;> try intro h) | refine aw1 ?_ | (refine abx ?_; intro bb) | (refine abz ?_; intro bz) | (refine ahv ?_; intro v' hv') | (refine aac ?_; intro ac cc) | refine aw2 ?_ | (refine ap4 ?_ ?_ <;> try intro h) | apply True.intro)
  · ((with_reducible apply fp_ret); exact res_1 rfl rfl)
    exact HR.out _ _ _ [] Takes.all ⟨rfl, rfl⟩
  · refine sw_loop (fun gm t H' => ∃ (i : Nat) (x y : Bool), gm = l.length + 1 - i ∧ (i ≤ l.length) ∧ (∀ q ∈ l.take i, rightQ q.key = true) ∧ (x = (l.take i).all fun q => satQ (hasT gs) q.key) ∧ (y = (l.take i).any fun q => satQ (hasT gs) q.key) ∧ (∃ G, Takes [] H' G) ∧ Sls t 88 [(0, v), (1, gv), (2, mv), (7, .bool x), (8, .bool y), (9, .int .i64 i)]) _ ⟨0, true, false, rfl, Nat.zero_le _, (fun q h => absurd h (by simp)), rfl, rfl, ⟨_, atks⟩, asls⟩ ?_
    rintro gm t H' ⟨i, x, y, rfl, hi, hr, hX, hY, ⟨G, hp⟩, hs'⟩
    revert t; refine sls_all ?_; iterate 82 intro uu'
    refine sw_takeG hp ?_; clear hp
    by_cases hlt : i < l.length
    · obtain ⟨q, hx⟩ : ∃ q, l.getD i default = q := ⟨_, rfl⟩
      have hqm : q ∈ l := hx ▸ getD_memU hlt
      have hqr := hl q hqm
      have hsq : sizeQ q.key ≤ sizeQs (l.map QuV.key) := sizeQs_mem (List.mem_map_of_mem hqm)
      have hri := right_any q (by omega) r hT hqr
      have hsa := sat_any r gv q gs hqr hg (by omega) (by omega)
      have htk : l.take (i + 1) = l.take i ++ [q] := by rw [take_getD (d := default) hlt, hx]
      rw [encQ_eq] at hri hsa
      have hal : ((l.take (i + 1)).all fun q => satQ (hasT gs) q.key) = (((l.take i).all fun q => satQ (hasT gs) q.key) && satQ (hasT gs) q.key) := by rw [htk, List.all_append]; simp
      have han : ((l.take (i + 1)).any fun q => satQ (hasT gs) q.key) = (((l.take i).any fun q => satQ (hasT gs) q.key) || satQ (hasT gs) q.key) := by rw [htk, List.any_append]; simp
      obtain ⟨rb, hrb⟩ : ∃ b, rightQ q.key = b := ⟨_, rfl⟩
      rw [← hX] at hal
      rw [← hY] at han
      rw [hrb] at hri
      cases rb
      · repeat' (first | (rw [hx]) | (rw [encQ_eq]) | (refine acl Tryd.func8 ?_; refine acr (hri) ?_; rintro v' H' ⟨rfl, rfl⟩; all_goals refine apl ?_) | (exfalso; first | contradiction | omega) | refine aw0 ?_ | (refine ap2 ?_ ?_ <;> try intro h) | refine aw1 ?_ | (refine abx ?_; intro bb) | (refine abz ?_; intro bz) | (refine ahv ?_; intro v' hv') | (refine aac ?_; intro ac cc) | refine aw2 ?_ | (refine ap4 ?_ ?_ <;> try intro h) | apply True.intro)
        ((with_reducible apply fp_ret); exact res_1 rfl rfl)
        exact HR.out _ _ _ [] Takes.all ⟨rfl, rfl⟩
      · have hr2 : ∀ q ∈ l.take (i + 1), rightQ q.key = true := fun s hs => by
          rw [htk] at hs
          rcases List.mem_append.1 hs with hs | hs
          · exact hr s hs
          · rw [List.mem_singleton.1 hs]; exact hrb
        obtain ⟨b, hb⟩ : ∃ b, satQ (hasT gs) q.key = b := ⟨_, rfl⟩
        rw [hb] at hsa hal han
        cases b
        · cases x <;> cases y
          all_goals
            repeat' (first | (rw [hx]) | (rw [encQ_eq]) | (refine acl Tryd.func8 ?_; refine acr (hri) ?_; rintro v' H' ⟨rfl, rfl⟩; all_goals refine apl ?_) | (refine acl Tryd.func9 ?_; refine acr (hsa) ?_; rintro v' H' ⟨rfl, rfl⟩; all_goals refine apl ?_) | ((with_reducible apply sw_draw (id := 14) 14 [(0, true), (1, true), (2, true), (3, true), (4, true), (5, true), (7, true), (9, true), (6, false), (8, false), (10, false), (11, false), (12, true), (13, true)] [] []); kernel_rfl; (exact atks); kernel_rfl; intro r' hl') | (exfalso; first | contradiction | omega) | refine aw0 ?_ | (refine ap2 ?_ ?_ <;> try intro h) | refine aw1 ?_ | (refine abx ?_; intro bb) | (refine abz ?_; intro bz) | (refine ahv ?_; intro v' hv') | (refine aac ?_; intro ac cc) | refine aw2 ?_ | (refine ap4 ?_ ?_ <;> try intro h) | apply True.intro)
            exact ⟨_, by omega, i + 1, _, _, rfl, by omega, hr2, by rw [hal], by rw [han], ⟨_, atks⟩, asls⟩
        · have h5 := encTx_one gs
          have h6 := encTx_one ms
          have hsm2 := fun r' w (h : sub r r') (hw : Els r' 1 encTx w (ms ++ gs)) => sat_any r' w q (ms ++ gs) (hqr.mono h) hw (by omega) (by rw [sizeT_app]; omega)
          rw [more_sat hb, encQ_eq] at hsm2
          cases x <;> cases y
          all_goals
            repeat' (first | (rw [hx]) | (rw [encQ_eq]) | (refine acl Tryd.func8 ?_; refine acr (hri) ?_; rintro v' H' ⟨rfl, rfl⟩; all_goals refine apl ?_) | (refine acl Tryd.func9 ?_; refine acr (hsa) ?_; rintro v' H' ⟨rfl, rfl⟩; all_goals refine apl ?_) | ((with_reducible apply sw_draw (id := 14) 14 [(0, true), (1, true), (2, true), (3, true), (4, true), (5, true), (7, true), (9, true), (6, false), (8, false), (10, false), (11, false), (12, true), (13, true)] [] []); kernel_rfl; (exact atks); kernel_rfl; intro r' hl') | ((with_reducible apply kx_bs0R); exact ty_el; exact ty_inf; intro bz; (refine apk ?_)) | ((with_reducible refine swo_isApp ?_); (with_reducible apply kx_appS (news := ms.flatMap encTx)); exact ty_el; exact ty_inf; rfl; rfl; rfl; rfl; exact (hm.mono hl'.1).2; (exact atk); exact h6; (unfold maxLen; omega); (omega); intro a1' c1'; refine apm ?_) | ((with_reducible refine swo_isApp ?_); (with_reducible apply kx_appS (news := gs.flatMap encTx)); exact ty_el; exact ty_inf; rfl; rfl; rfl; rfl; exact (hg.mono hl'.1).2; (exact atk); exact h5; (unfold maxLen; omega); (omega); intro a2' c2'; refine apm ?_) | ((with_reducible apply kx_lendC (A := RowC 9 1 (.slice a2' (0 + ms.length + gs.length) c2') (0 + ms.length + gs.length) (ms.flatMap encTx ++ gs.flatMap encTx))); (with_reducible (exact atk)); intro r1 g1 hr1 hg1 hA1; (refine acl Tryd.func9 ?_; refine acr (hsm2 r1 _ (Sx.sub.trans hl'.1 hr1) (mg_els hA1 hg1)) ?_; rintro v' H' ⟨rfl, rfl⟩; all_goals refine apl ?_)) | (exfalso; first | contradiction | omega) | refine aw0 ?_ | (refine ap2 ?_ ?_ <;> try intro h) | refine aw1 ?_ | (refine abx ?_; intro bb) | (refine abz ?_; intro bz) | (refine ahv ?_; intro v' hv') | (refine aac ?_; intro ac cc) | refine aw2 ?_ | (refine ap4 ?_ ?_ <;> try intro h) | apply True.intro)
          all_goals exact ⟨_, by omega, i + 1, _, _, rfl, by omega, hr2, by rw [hal], by rw [han], ⟨_, atks⟩, asls⟩
    · obtain rfl : i = l.length := by omega
      rw [List.take_length] at hr hX hY
      have hR : Right (l.map QuV.key) := fun q hq => by
        obtain ⟨s, hs, rfl⟩ := List.mem_map.1 hq
        exact hr s hs
      have ha := and_any r hT v l hv hl (told_right (right_sA hR)) (by omega)
      have ho := or_any r hT v l hv hl (told_right (right_sO hR)) (by omega)
      have hX2 : satQ (hasT gs) (andQ (l.map QuV.key)) = x := by rw [sat_andQ _ hR, List.all_map, hX]; rfl
      have hY2 : satQ (hasT gs) (orQ (l.map QuV.key)) = y := by rw [sat_orQ _ hR, List.any_map, hY]; rfl
      have hrA := right_andQ hR
      have hrO := right_orQ hR
      have hzA := size_andQ (l.map QuV.key)
      have hzO := size_orQ (l.map QuV.key)
      generalize andQ (l.map QuV.key) = kA at *
      generalize orQ (l.map QuV.key) = kO at *
      clear hX hY hR
      have hfin : ∀ r' q k b, sub r r' → QuR r' q → q.key = k → rightQ k = true → satQ (hasT gs) k = b → sizeQ k ≤ 1 + sizeQs (l.map QuV.key) → Tri Tryd.prog r' 8 [.agg [.int .i64 q.kind, q.gv, q.sv].toArray] [] (fun w H => w = .bool true ∧ H = []) ∧ Tri Tryd.prog r' 9 [.agg [.int .i64 q.kind, q.gv, q.sv].toArray, gv] [] (fun w H => w = .bool b ∧ H = []) := by
        intro r' q k b hr' hq hk hr hb hz
        have h1 := right_any q (by rw [hk]; omega) r' (hT.mono hr') hq
        have h2 := sat_any r' gv q gs hq (hg.mono hr') (by rw [hk]; omega) (by omega)
        rw [hk, hr] at h1
        rw [hk, hb] at h2
        exact ⟨h1, h2⟩
      cases x <;> cases y
      all_goals
        repeat' (first | ((with_reducible apply sw_freezeT (c := .seq (.region 17 _ _) _) (A := OwnQ q1)); (with_reducible (exact atk)); intro r3 g3 hr3 hg3 hA3; (with_reducible apply sw_freezeT (A := OwnQ q2)); (with_reducible (exact atk)); intro r5 g5 hr5 hg5 hA5; have hq1 := (own_read hA3 hg3).mono hr5; have hq2 := own_read hA5 hg5; obtain ⟨c1, c2⟩ := hfin r5 q1 _ _ (Sx.sub.trans hr3 hr5) hq1 hk1 hrA hX2 hzA; obtain ⟨c3, c4⟩ := hfin r5 q2 _ _ (Sx.sub.trans hr3 hr5) hq2 hk2 hrO hY2 hzO) | (refine acl Tryd.func10 ?_; refine acr (ha) ?_; rintro v' H' ⟨q1, hk1, ho1, rfl, rfl⟩; all_goals refine apl ?_) | (refine acl Tryd.func11 ?_; refine acr (ho) ?_; rintro v' H' ⟨q2, hk2, ho2, rfl, rfl⟩; all_goals refine apl ?_) | (rw [encQ_eq]) | (refine acl Tryd.func8 ?_; refine acr (c1) ?_; rintro v' H' ⟨rfl, rfl⟩; all_goals refine apl ?_) | (refine acl Tryd.func8 ?_; refine acr (c3) ?_; rintro v' H' ⟨rfl, rfl⟩; all_goals refine apl ?_) | (refine acl Tryd.func9 ?_; refine acr (c2) ?_; rintro v' H' ⟨rfl, rfl⟩; all_goals refine apl ?_) | (refine acl Tryd.func9 ?_; refine acr (c4) ?_; rintro v' H' ⟨rfl, rfl⟩; all_goals refine apl ?_) | ((with_reducible apply kx_storeN); exact ty_size; rfl; rfl; rfl; (exact qsw); exact ho1; (exact qst); (refine apk ?_)) | ((with_reducible apply kx_storeN); exact ty_size; rfl; rfl; rfl; (exact qsw); exact ho2; (exact qst); (refine apk ?_)) | (exfalso; first | contradiction | omega) | refine aw0 ?_ | (refine ap2 ?_ ?_ <;> try intro h) | refine aw1 ?_ | (refine abx ?_; intro bb) | (refine abz ?_; intro bz) | (refine ahv ?_; intro v' hv') | (refine aac ?_; intro ac cc) | refine aw2 ?_ | (refine ap4 ?_ ?_ <;> try intro h) | apply True.intro)
      all_goals
        ((with_reducible apply fp_ret); exact res_1 rfl rfl)
        exact HR.out _ _ _ [] Takes.all ⟨rfl, rfl⟩
end Go.Proofs.YtgodcegaffgfjaaDoor
