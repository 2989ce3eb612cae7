
/- query.Right: its contract. -/
import Derived.Test.YtgodcegaffgfjaaDoorUl
namespace Go.Proofs.YtgodcegaffgfjaaDoor
open Go.RowKit Sx

def RightT (q : QuV) : Prop := ∀ r : Hp, TabR r → QuR r q → Tri Tryd.prog r 8 [.agg (encQ q).toArray] [] fun w H => w = .bool (rightQ q.key) ∧ H = []
theorem rightQ_v (q : QuV) : rightQ q.key = if q.kind = 1 ∨ q.kind = 2 then decide (q.grams.length + q.subs.length = 0)
    else if q.kind = 3 then rightL 4 (q.subs.map QuV.key) && decide ((if q.grams.length = 0 then 2 else 1) ≤ q.grams.length + q.subs.length) && q.grams.all (fun g => decide (g.length = 3)) && risT q.grams && risT (q.subs.map fun s => textQ s.key)
    else if q.kind = 4 then rightL 3 (q.subs.map QuV.key) && decide (2 ≤ q.grams.length + q.subs.length) && q.grams.all (fun g => decide (g.length = 3)) && risT q.grams && risT (q.subs.map fun s => textQ s.key) else false := by
  obtain ⟨k, gv, gs, sv, ss⟩ := q
  rw [key_mk]
  unfold rightQ
  rw [textL_map, List.map_map, List.length_map]; rfl
theorem all_any (gs : List Tx) : gs.all (fun g => decide (g.length = 3)) = !(gs.any fun g => !decide (g.length = 3)) := by
  rw [List.all_eq_not_any_not]
def SubOk (o : Int) (s : QuV) : Prop := s.kind = o ∧ loneQ s.key = false ∧ rightQ s.key = true
theorem rightL_subs {o : Int} {ss : List QuV} : rightL o (ss.map QuV.key) = true ↔ ∀ s ∈ ss, SubOk o s := by
  rw [rightL_iff]
  simp only [List.forall_mem_map, key_kind]; rfl
set_option maxRecDepth 10000 in
set_option maxHeartbeats 16000000 in
theorem right_of (r : Hp) (hT : TabR r) (q : QuV) (hq : QuR r q) (hs : sizeQ q.key ≤ 9000000) (ih : ∀ s ∈ q.subs, RightT s) : Tri Tryd.prog r 8 [.agg (encQ q).toArray] [] fun w H => w = .bool (rightQ q.key) ∧ H = [] := by
  have hrq := rightQ_v q
  obtain ⟨rb, hrb⟩ : ∃ b, rightQ q.key = b := ⟨_, rfl⟩
  rw [hrb] at hrq ⊢
  clear hrb
  obtain ⟨h1, h2, h3⟩ := quR_iff.1 hq
  have hl1 := maxI h1.2.2.1
  have hl2 := maxI h2.2.2.1
  have hsz := size_parts q.key
  rw [key_grams, key_subs] at hsz
  have hgl := sizeT_len q.grams
  have hsl := sizeQs_len (q.subs.map QuV.key)
  rw [List.length_map] at hsl
  refine Tri.free2 fun R HR => ?_
  show Tri _ _ _ [.agg [.int .i64 q.kind, q.gv, q.sv].toArray] _ _
  by_cases h12 : q.kind = 1 ∨ q.kind = 2
  · rw [if_pos h12] at hrq
    refine fn_of_sw Tryd.func8 rfl _ rfl ?_; refine aen Tryd.ntmps8 ?_
    repeat' (first | ((with_reducible apply kx_box); rfl; (exact qcl); intro b1; (refine apk ?_)) | (exfalso; first | contradiction | omega) | refine aw0 ?_ | (refine ap2 ?_ ?_ <;> try intro h) | refine aw1 ?_ | (refine abx ?_; intro bb) | (refine abz ?_; intro bz) | (refine ahv ?_; intro v' hv') | (refine aac ?_; intro ac cc) | refine aw2 ?_ | (refine ap4 ?_ ?_ <;> try intro h) | apply True.intro)
    all_goals
      ((with_reducible apply fp_ret); exact res_1 rfl rfl)
      exact HR.out _ _ _ [] Takes.all ⟨by rw [hrq]; congr 1; rw [decide_eq_decide]; omega, rfl⟩
  rw [if_neg h12] at hrq
  by_cases h34 : q.kind = 3 ∨ q.kind = 4
  · obtain ⟨o, n5, ho, hre⟩ : ∃ o n5 : Int, ((q.kind = 3 ∧ 0 < q.grams.length ∧ o = 4 ∧ n5 = 1) ∨ (q.kind = 3 ∧ q.grams.length = 0 ∧ o = 4 ∧ n5 = 2) ∨ (q.kind = 4 ∧ o = 3 ∧ n5 = 2)) ∧ rb = (rightL o (q.subs.map QuV.key) && decide (n5 ≤ (q.grams.length : Int) + q.subs.length) && !(q.grams.any fun g => !decide (g.length = 3)) && risT q.grams && risT (q.subs.map fun s => textQ s.key)) := by
      rw [all_any] at hrq
      rcases h34 with h | h
      · rw [if_pos h] at hrq
        by_cases h0 : q.grams.length = 0
        · rw [if_pos h0] at hrq
          exact ⟨4, 2, .inr (.inl ⟨h, h0, rfl, rfl⟩), by rw [hrq]; congr 4; rw [decide_eq_decide]; omega⟩
        · rw [if_neg h0] at hrq
          exact ⟨4, 1, .inl ⟨h, by omega, rfl, rfl⟩, by rw [hrq]; congr 4; rw [decide_eq_decide]; omega⟩
      · rw [if_neg (by omega), if_pos h] at hrq
        exact ⟨3, 2, .inr (.inr ⟨h, rfl, rfl⟩), by rw [hrq]; congr 4; rw [decide_eq_decide]; omega⟩
    clear hrq
    obtain ⟨T, hT2⟩ : ∃ T, (q.subs.map fun s => textQ s.key) = T := ⟨_, rfl⟩
    have hTl : T.length = q.subs.length := by rw [← hT2, List.length_map]
    rw [hT2] at hre
    have hcont := fun r' (h : sub r r') => contStr_any r' q.gv q.grams 18 [] [] (fun g => !decide (g.length = 3)) (h1.mono h) (goesOf Tryd.func18 (by kernel_rfl) rfl) (fun k hk => rgram_any r' _)
    obtain ⟨cB, hcB⟩ : ∃ b, (q.grams.any fun g => !decide (g.length = 3)) = b := ⟨_, rfl⟩
    have hris := fun r' (h : sub r r') => rising_any r' q.gv q.grams (h1.mono h) (by omega)
    obtain ⟨r1, hr1⟩ : ∃ b, risT q.grams = b := ⟨_, rfl⟩
    rw [hcB] at hcont hre
    rw [hr1] at hris hre
    clear hcB hr1
    refine fn_of_sw Tryd.func8 rfl _ rfl ?_; refine aen Tryd.ntmps8 ?_
    repeat' (first | ((with_reducible apply kx_box); rfl; (exact qcl); intro b1; (refine apk ?_)) | (exfalso; first | contradiction | omega) | refine aw0 ?_ | (refine ap2 ?_ ?_ <;> try intro h) | refine aw1 ?_ | (refine abx ?_; intro bb) | (refine abz ?_; intro bz) | (refine ahv ?_; intro v' hv') | (refine aac ?_; intro ac cc) | refine aw2 ?_ | (refine ap4 ?_ ?_ <;> try intro h) | apply True.intro)
    all_goals
      refine sw_put (A := RowC 9 1 (.slice none 0 0) 0 []) (RowC.nil _ _) ?_
      refine sw_loop (fun gm t H' => ∃ (j : Nat) (a : Option Addr) (c' : Nat), gm = q.subs.length + 1 - j ∧ (j ≤ q.subs.length) ∧ (∀ s ∈ q.subs.take j, SubOk o s) ∧ (∃ G, Takes [qbox b1 q, RowC 9 1 (.slice a (T.take j).length c') (T.take j).length ((T.take j).flatMap encTx)] H' G) ∧ Sls t 75 [(1, .pointer (some ⟨b1, 0, none⟩)), (3, .int .i64 ((q.grams.length : Int) + q.subs.length)), (4, .int .i64 o), (5, .int .i64 n5), (6, .slice a (T.take j).length c'), (32, q.sv), (33, .int .i64 q.subs.length), (34, .int .i64 j)]) _ ⟨0, none, 0, rfl, Nat.zero_le _, (fun s h => absurd h (by simp)), ⟨_, atks⟩, asls⟩ ?_
      rintro gm t H' ⟨j, a, c', rfl, hj, hok, ⟨G, hp⟩, hs'⟩
      revert t; refine sls_all ?_; iterate 67 intro uu'
      refine sw_takeG hp ?_; clear hp
      by_cases hlt : j < q.subs.length
      · obtain ⟨s, hx⟩ : ∃ s, q.subs.getD j default = s := ⟨_, rfl⟩
        have hsm : s ∈ q.subs := hx ▸ getD_memU hlt
        have hsr := h3 s hsm
        have hse : encQ s = [.int .i64 s.kind, s.gv, s.sv] := rfl
        have hsq := (quR_iff.1 hsr).2.1
        have hsg := (quR_iff.1 hsr).1
        have hlo := lone_any r s hsr
        have hri := ih s hsm r hT hsr
        have hss : sizeQ s.key ≤ sizeQs (q.subs.map QuV.key) := sizeQs_mem (List.mem_map_of_mem hsm)
        have htx := text_any s (by omega) r hT hsr
        rw [hse] at hlo hri htx
        have hTj : T.take (j + 1) = T.take j ++ [textQ s.key] := by
          rw [take_getD (d := default) (show j < T.length by omega), ← hT2, ← hx]
          congr 1
          rw [List.getD_eq_getElem?_getD, List.getElem?_map, List.getD_eq_getElem?_getD, List.getElem?_eq_getElem hlt]; rfl
        have htl : (T.take j).length ≤ 9000000 := by rw [List.length_take]; omega
        obtain ⟨Y, hY⟩ : ∃ Y, T.take j = Y := ⟨_, rfl⟩
        rw [hY] at htl hTj ⊢
        have hbad : ¬ SubOk o s → rb = false := fun h => by
          rw [hre]
          have e : rightL o (q.subs.map QuV.key) = false := by rw [← Bool.not_eq_true]; exact fun e => h (rightL_subs.1 e s hsm)
          rw [e]; rfl
        obtain ⟨lb, hlb⟩ : ∃ b, loneQ s.key = b := ⟨_, rfl⟩
        obtain ⟨gb, hgb⟩ : ∃ b, rightQ s.key = b := ⟨_, rfl⟩
        rw [hlb] at hlo
        rw [hgb] at hri
        clear hY
        by_cases hko : s.kind = o
        · cases lb
          · cases gb
            · have hbad := hbad fun h => by rw [h.2.2] at hgb; cases hgb
              repeat' (first | (rw [hx]) | (rw [hse]) | ((with_reducible apply kx_alloc (E := 30)); exact ty_zero; (exact qcl); intro b8; (refine apk ?_)) | (refine acl Tryd.func16 ?_; refine acr (hlo) ?_; rintro v' H' ⟨rfl, rfl⟩; all_goals refine apl ?_) | (refine acl Tryd.func8 ?_; refine acr (hri) ?_; rintro v' H' ⟨rfl, rfl⟩; all_goals refine apl ?_) | (refine acl Tryd.func13 ?_; refine acr (htx) ?_; rintro v' H' ⟨rfl, rfl⟩; all_goals refine apl ?_) | (first | ((with_reducible apply kx_append1); exact ty_el; exact ty_inf; rfl; rfl; rfl; (exact atk); (exact atk); rfl; omega; intro a' c'; (refine apk ?_)) | ((with_reducible apply kx_appendN); exact ty_el; exact ty_inf; rfl; rfl; rfl; rfl; (exact atk); (exact atk); rfl; rfl; omega; intro a' c'; (refine apk ?_))) | (exfalso; first | contradiction | omega) | refine aw0 ?_ | (refine ap2 ?_ ?_ <;> try intro h) | refine aw1 ?_ | (refine abx ?_; intro bb) | (refine abz ?_; intro bz) | (refine ahv ?_; intro v' hv') | (refine aac ?_; intro ac cc) | refine aw2 ?_ | (refine ap4 ?_ ?_ <;> try intro h) | apply True.intro)
              ((with_reducible apply fp_ret); exact res_1 rfl rfl)
              exact HR.out _ _ _ [] (by (exact atks)) ⟨by rw [hbad], rfl⟩
            · have hok2 : ∀ s ∈ q.subs.take (j + 1), SubOk o s := fun y hy => by
                rw [take_getD (d := default) hlt, hx] at hy
                rcases List.mem_append.1 hy with hy | hy
                · exact hok y hy
                · obtain rfl := List.mem_singleton.1 hy
                  exact ⟨hko, hlb, hgb⟩
              clear hbad hok
              have hTl1 : (T.take (j + 1)).length = Y.length + 1 := by rw [hTj, List.length_append]; rfl
              repeat' (first | (rw [hx]) | (rw [hse]) | ((with_reducible apply kx_alloc (E := 30)); exact ty_zero; (exact qcl); intro b8; (refine apk ?_)) | (refine acl Tryd.func16 ?_; refine acr (hlo) ?_; rintro v' H' ⟨rfl, rfl⟩; all_goals refine apl ?_) | (refine acl Tryd.func8 ?_; refine acr (hri) ?_; rintro v' H' ⟨rfl, rfl⟩; all_goals refine apl ?_) | (refine acl Tryd.func13 ?_; refine acr (htx) ?_; rintro v' H' ⟨rfl, rfl⟩; all_goals refine apl ?_) | (first | ((with_reducible apply kx_append1); exact ty_el; exact ty_inf; rfl; rfl; rfl; (exact atk); (exact atk); rfl; omega; intro a' c'; (refine apk ?_)) | ((with_reducible apply kx_appendN); exact ty_el; exact ty_inf; rfl; rfl; rfl; rfl; (exact atk); (exact atk); rfl; rfl; omega; intro a' c'; (refine apk ?_))) | (exfalso; first | contradiction | omega) | refine aw0 ?_ | (refine ap2 ?_ ?_ <;> try intro h) | refine aw1 ?_ | (refine abx ?_; intro bb) | (refine abz ?_; intro bz) | (refine ahv ?_; intro v' hv') | (refine aac ?_; intro ac cc) | refine aw2 ?_ | (refine ap4 ?_ ?_ <;> try intro h) | apply True.intro)
              exact ⟨_, by omega, j + 1, a', c', rfl, by omega, hok2, ⟨_, by rw [hTj, List.length_append, List.length_singleton, List.flatMap_append, show [textQ s.key].flatMap encTx = [.string (bs (textQ s.key))] from rfl]; exact atks⟩, asls⟩
          · have hbad := hbad fun h => by rw [h.2.1] at hlb; cases hlb
            repeat' (first | (rw [hx]) | (rw [hse]) | ((with_reducible apply kx_alloc (E := 30)); exact ty_zero; (exact qcl); intro b8; (refine apk ?_)) | (refine acl Tryd.func16 ?_; refine acr (hlo) ?_; rintro v' H' ⟨rfl, rfl⟩; all_goals refine apl ?_) | (refine acl Tryd.func8 ?_; refine acr (hri) ?_; rintro v' H' ⟨rfl, rfl⟩; all_goals refine apl ?_) | (refine acl Tryd.func13 ?_; refine acr (htx) ?_; rintro v' H' ⟨rfl, rfl⟩; all_goals refine apl ?_) | (first | ((with_reducible apply kx_append1); exact ty_el; exact ty_inf; rfl; rfl; rfl; (exact atk); (exact atk); rfl; omega; intro a' c'; (refine apk ?_)) | ((with_reducible apply kx_appendN); exact ty_el; exact ty_inf; rfl; rfl; rfl; rfl; (exact atk); (exact atk); rfl; rfl; omega; intro a' c'; (refine apk ?_))) | (exfalso; first | contradiction | omega) | refine aw0 ?_ | (refine ap2 ?_ ?_ <;> try intro h) | refine aw1 ?_ | (refine abx ?_; intro bb) | (refine abz ?_; intro bz) | (refine ahv ?_; intro v' hv') | (refine aac ?_; intro ac cc) | refine aw2 ?_ | (refine ap4 ?_ ?_ <;> try intro h) | apply True.intro)
            ((with_reducible apply fp_ret); exact res_1 rfl rfl)
            exact HR.out _ _ _ [] (by (exact atks)) ⟨by rw [hbad], rfl⟩
        · have hbad := hbad fun h => hko h.1
          repeat' (first | (rw [hx]) | (rw [hse]) | ((with_reducible apply kx_alloc (E := 30)); exact ty_zero; (exact qcl); intro b8; (refine apk ?_)) | (refine acl Tryd.func16 ?_; refine acr (hlo) ?_; rintro v' H' ⟨rfl, rfl⟩; all_goals refine apl ?_) | (refine acl Tryd.func8 ?_; refine acr (hri) ?_; rintro v' H' ⟨rfl, rfl⟩; all_goals refine apl ?_) | (refine acl Tryd.func13 ?_; refine acr (htx) ?_; rintro v' H' ⟨rfl, rfl⟩; all_goals refine apl ?_) | (first | ((with_reducible apply kx_append1); exact ty_el; exact ty_inf; rfl; rfl; rfl; (exact atk); (exact atk); rfl; omega; intro a' c'; (refine apk ?_)) | ((with_reducible apply kx_appendN); exact ty_el; exact ty_inf; rfl; rfl; rfl; rfl; (exact atk); (exact atk); rfl; rfl; omega; intro a' c'; (refine apk ?_))) | (exfalso; first | contradiction | omega) | refine aw0 ?_ | (refine ap2 ?_ ?_ <;> try intro h) | refine aw1 ?_ | (refine abx ?_; intro bb) | (refine abz ?_; intro bz) | (refine ahv ?_; intro v' hv') | (refine aac ?_; intro ac cc) | refine aw2 ?_ | (refine ap4 ?_ ?_ <;> try intro h) | apply True.intro)
          ((with_reducible apply fp_ret); exact res_1 rfl rfl)
          exact HR.out _ _ _ [] (by (exact atks)) ⟨by rw [hbad], rfl⟩
      · obtain rfl : j = q.subs.length := by omega
        rw [← hTl, List.take_length]
        rw [List.take_length] at hok
        rw [rightL_subs.2 hok, Bool.true_and] at hre
        clear hok
        have hTn : T.length ≤ 9000000 := by omega
        have hri3 := fun r' h => rising_any r' (.slice a T.length c') T h hTn
        obtain ⟨r2b, hr2b⟩ : ∃ b, risT T = b := ⟨_, rfl⟩
        rw [hr2b] at hri3 hre
        clear hr2b
        by_cases hnn : n5 ≤ (q.grams.length : Int) + q.subs.length
        · rw [decide_eq_true hnn] at hre
          cases cB <;> cases r1 <;> cases r2b
          all_goals (repeat' (first | ((with_reducible apply sw_lendQ (c := .region 21 _ _) (A := RowC 9 1 (.slice a T.length c') T.length (T.flatMap encTx))); (with_reducible (exact atk)); intro r2 g2 hr2 hg2 hA2; have hri2 := hri3 r2 ⟨fun _ => rfl, hA2.sl hg2⟩; have hco2 := hcont r2 hr2; have hrs2 := hris r2 hr2) | (refine acl Tryd.func17 ?_; refine acr (hco2) ?_; rintro v' H' ⟨rfl, rfl⟩; all_goals refine apl ?_) | (refine acl Tryd.func20 ?_; refine acr (hrs2) ?_; rintro v' H' ⟨rfl, rfl⟩; all_goals refine apl ?_) | (refine acl Tryd.func20 ?_; refine acr (hri2) ?_; rintro v' H' ⟨rfl, rfl⟩; all_goals refine apl ?_) | (exfalso; first | contradiction | omega) | refine aw0 ?_ | (refine ap2 ?_ ?_ <;> try intro h) | refine aw1 ?_ | (refine abx ?_; intro bb) | (refine abz ?_; intro bz) | (refine ahv ?_; intro v' hv') | (refine aac ?_; intro ac cc) | refine aw2 ?_ | (refine ap4 ?_ ?_ <;> try intro h) | apply True.intro))
          all_goals
            ((with_reducible apply fp_ret); exact res_1 rfl rfl)
            exact HR.out _ _ _ [] Takes.all ⟨by rw [hre]; rfl, rfl⟩
        · rw [decide_eq_false hnn] at hre
          repeat' (first | ((with_reducible apply sw_lendQ (c := .region 21 _ _) (A := RowC 9 1 (.slice a T.length c') T.length (T.flatMap encTx))); (with_reducible (exact atk)); intro r2 g2 hr2 hg2 hA2; have hri2 := hri3 r2 ⟨fun _ => rfl, hA2.sl hg2⟩; have hco2 := hcont r2 hr2; have hrs2 := hris r2 hr2) | (refine acl Tryd.func17 ?_; refine acr (hco2) ?_; rintro v' H' ⟨rfl, rfl⟩; all_goals refine apl ?_) | (refine acl Tryd.func20 ?_; refine acr (hrs2) ?_; rintro v' H' ⟨rfl, rfl⟩; all_goals refine apl ?_) | (refine acl Tryd.func20 ?_; refine acr (hri2) ?_; rintro v' H' ⟨rfl, rfl⟩; all_goals refine apl ?_) | (exfalso; first | contradiction | omega) | refine aw0 ?_ | (refine ap2 ?_ ?_ <;> try intro h) | refine aw1 ?_ | (refine abx ?_; intro bb) | (refine abz ?_; intro bz) | (refine ahv ?_; intro v' hv') | (refine aac ?_; intro ac cc) | refine aw2 ?_ | (refine ap4 ?_ ?_ <;> try intro h) | apply True.intro)
          all_goals
            ((with_reducible apply fp_ret); exact res_1 rfl rfl)
            exact HR.out _ _ _ [] Takes.all ⟨by (rw [hre]; try rfl), rfl⟩
  · rw [if_neg (by omega), if_neg (by omega)] at hrq
    refine fn_of_sw Tryd.func8 rfl _ rfl ?_; refine aen Tryd.ntmps8 ?_
    repeat' (first | ((with_reducible apply kx_box); rfl; (exact qcl); intro b1; (refine apk ?_)) | (exfalso; first | contradiction | omega) | refine aw0 ?_ | (refine ap2 ?_ ?_ <;> try intro h) | refine aw1 ?_ | (refine abx ?_; intro bb) | (refine abz ?_; intro bz) | (refine ahv ?_; intro v' hv') | (refine aac ?_; intro ac cc) | refine aw2 ?_ | (refine ap4 ?_ ?_ <;> try intro h) | apply True.intro)
    ((with_reducible apply fp_ret); exact res_1 rfl rfl)
    exact HR.out _ _ _ [] Takes.all ⟨by rw [hrq], rfl⟩
theorem right_any : ∀ q : QuV, sizeQ q.key ≤ 9000000 → RightT q
  | .mk k gv gs sv ss => fun h r hT hq => right_of r hT _ hq h fun s _h => right_any s (by
      have h1 : sizeQ s.key ≤ sizeQs (ss.map QuV.key) := sizeQs_mem (List.mem_map_of_mem _h)
      rw [key_mk] at h
      simp only [sizeQ] at h
      omega)
termination_by q => SizeOf.sizeOf q
decreasing_by
  have := List.sizeOf_lt_of_mem _h
  simp only [QuV.mk.sizeOf_spec, QuV.subs] at *
  omega
end Go.Proofs.YtgodcegaffgfjaaDoor
