
/- (*batch.merger).behind: what it tells. -/
import Derived.Test.YtmnehdpclnhmbaaBh
namespace Go.Proofs.Ytmnehdpclnhmbaa
open Go.RowKit Sx

abbrev lbox (b : Nat) (v : Value) : Ch := pt b (.cells [v].toArray 25 (0, 0))
abbrev mbox (b m : Nat) : Ch := pt b (.cells [.pointer (some ⟨m, 0, none⟩)].toArray 86 (0, 0))
abbrev mrow_ (m : Nat) (v : Value) : Ch := pt m (.cells [v].toArray 51 (0, 0))
theorem drop_three {α : Type} {X A B C : List α} {i : Nat} (h : X.drop i = A ++ (B ++ C)) : (∀ q, q < A.length → X[i + q]? = A[q]?) ∧ (∀ q, q < B.length → X[i + A.length + q]? = B[q]?) ∧ X.drop (i + A.length + B.length) = C := by
  have hx : ∀ q, X[i + q]? = (A ++ (B ++ C))[q]? := fun q => by rw [← h, List.getElem?_drop]
  refine ⟨fun q hq => by rw [hx, List.getElem?_append_left hq], fun q hq => ?_, ?_⟩
  · rw [Nat.add_assoc, hx, List.getElem?_append_right (by omega), Nat.add_sub_cancel_left, List.getElem?_append_left hq]
  · rw [Nat.add_assoc, ← List.drop_drop, h, ← List.append_assoc, ← List.length_append, List.drop_left]
set_option maxRecDepth 10000 in
set_option maxHeartbeats 8000000 in
theorem behind_seq (r : Hp) (Bl Bm bm : Nat) (v vl : Value) (fs : List FileV) (cs : List ChV) (hv : Els r 2 encF v fs) (hl : Chs r vl cs) (hr : RisK (fs.map FileV.key)) (hn : fs.length ≤ 1000000) :
    Seq Try.prog r 37 [.pointer (some ⟨Bl, 0, none⟩), .pointer (some ⟨Bm, 0, none⟩)] (fun x : FileV => [.agg (encF x).toArray]) (behindV fs cs) [lbox Bl vl, mbox Bm bm, mrow_ bm v] [] := by
  intro k J Jx hy
  obtain ⟨X, hX0⟩ : ∃ X, behindV fs cs = X := ⟨_, rfl⟩
  rw [hX0] at hy ⊢
  have hyD : ∀ j x, X[j]? = some x → Yld Try.prog r k [.agg (encF x).toArray] (J j) (J (j + 1)) (Jx (j + 1)) := fun j x hx => by
    obtain ⟨hj, rfl⟩ := List.getElem?_eq_some_iff.1 hx
    exact hy j hj
  clear hy
  refine Tri.free2 fun R HR => ?_
  obtain ⟨hle, hlb⟩ := hl
  have hvl1 := hle.one
  have hcl := hle.2.2.1
  unfold maxLen at hcl
  refine fn_of_sw Try.func37 rfl _ rfl ?_; refine aen Try.ntmps37 ?_
  repeat' (first | ((with_reducible apply kx_box); rfl; (exact qcl); intro b3; (refine apk ?_)) | refine aw0 ?_ | (refine ap2 ?_ ?_ <;> try intro h) | refine aw1 ?_ | (refine abx ?_; intro bb) | (refine abz ?_; intro bz) | (refine ahv ?_; intro v' hv') | (refine aac ?_; intro ac cc) | refine aw2 ?_ | (refine ap4 ?_ ?_ <;> try intro h) | apply True.intro)
  refine sw_loop (fun gm t H' => ∃ (m i : Nat) (v' : Value) (fs' : List FileV), gm = cs.length + 1 - m ∧ (m ≤ cs.length) ∧ (i ≤ X.length) ∧ (X.drop i = behindV fs' (cs.drop m)) ∧ (Els r 2 encF v' fs') ∧ (RisK (fs'.map FileV.key)) ∧ (fs'.length ≤ 1000000) ∧ (∃ G, Takes [mbox Bm bm, mrow_ bm v', ybox b3 k, J i] H' G) ∧ Sls t 55 [(2, .pointer (some ⟨Bm, 0, none⟩)), (3, .pointer (some ⟨b3, 0, none⟩)), (4, .func (.func 38) #[] #[.pointer (some ⟨b3, 0, none⟩)]), (10, vl), (11, .int .i64 cs.length), (12, .int .i64 m)]) _ ⟨0, 0, v, fs, rfl, Nat.zero_le _, Nat.zero_le _, hX0.symm, hv, hr, hn, ⟨_, atks⟩, asls⟩ ?_
  rintro gm t H' ⟨m, i, v', fs', rfl, hm, hi, hX, hE, hR, hn', ⟨G, hp⟩, hs'⟩
  revert t; refine sls_all ?_; iterate 49 intro uu'
  refine sw_takeG hp ?_; clear hp
  by_cases hlt : m < cs.length
  · obtain ⟨c, hc⟩ : ∃ c, cs.getD m default = c := ⟨_, rfl⟩
    have hcm : c ∈ cs := hc ▸ getDm hlt
    have hcv := hlb c hcm
    obtain ⟨p, tk, cv, cd⟩ := c
    dsimp only at hcv
    have hce : encCh ⟨p, tk, cv, cd⟩ = [.string (bs p), .bool tk, cv] := rfl
    repeat' (first | (rw [hc, hce]) | ((with_reducible apply kx_alloc (E := 44)); exact ty_zero; (exact qcl); intro b6; (refine apk ?_)) | (exfalso; first | contradiction | omega) | refine aw0 ?_ | (refine ap2 ?_ ?_ <;> try intro h) | refine aw1 ?_ | (refine abx ?_; intro bb) | (refine abz ?_; intro bz) | (refine ahv ?_; intro v' hv') | (refine aac ?_; intro ac cc) | refine aw2 ?_ | (refine ap4 ?_ ?_ <;> try intro h) | apply True.intro)
    have hXm : X.drop i = fs'.filter (fun f => decide (f.path < p)) ++ ((if tk then [] else [putF ⟨p, tk, cv, cd⟩]) ++ behindV (fs'.filter fun f => decide (p < f.path)) (cs.drop (m + 1))) := by
      rw [hX, List.drop_eq_getElem_cons hlt, show cs[m] = ⟨p, tk, cv, cd⟩ by rw [← hc, List.getD_eq_getElem?_getD, List.getElem?_eq_getElem hlt]; rfl]
      rfl
    have hun := fun r' (h : sub r r') => until_any r' bm 51 v' fs' p (hE.mono h) hR hn'
    repeat' (first | ((with_reducible apply sw_draw (id := 5) 10 [(0, true), (1, true), (2, true), (3, true), (4, true), (5, false), (6, true), (7, true), (8, true), (9, true)] [(10, false)] [(Bm, .cells [.pointer (some ⟨bm, 0, none⟩)].toArray 86 (0, 0)), (b6, .cells [.string (bs p), .bool tk, cv].toArray 44 (0, 0))]); kernel_rfl; (exact atks); kernel_rfl; intro r' hl') | (refine acl Try.func40 ?_; refine acr (hun _ hl'.1) ?_; rintro v' H' ⟨q, hq, rfl, rfl⟩; all_goals refine apl ?_) | (exfalso; first | contradiction | omega) | refine aw0 ?_ | (refine ap2 ?_ ?_ <;> try intro h) | refine aw1 ?_ | (refine abx ?_; intro bb) | (refine abz ?_; intro bz) | (refine ahv ?_; intro v' hv') | (refine aac ?_; intro ac cc) | refine aw2 ?_ | (refine ap4 ?_ ?_ <;> try intro h) | apply True.intro)
    have hqle := hq.1
    have ht := atK_take hq
    have hD := atK_drop hR hq
    have hlA : (fs'.take q).length = q := by rw [List.length_take]; omega
    rw [← ht] at hXm
    have hl3 := drop_three hXm
    rw [hlA] at hl3
    have hiq : i + q ≤ X.length := by
      have h1 := congrArg List.length hXm
      rw [List.length_drop, List.length_append, hlA] at h1
      omega
    have hA : Els r 2 encF (cutV v' 0 q 2) (fs'.take q) := by
      have := hE.cut (i := 0) (j := q) (Nat.zero_le _) hqle
      simpa using this
    have hB : Els r 2 encF (cutV v' q fs'.length 2) (fs'.drop q) := by
      have := hE.cut (i := q) (j := fs'.length) hqle (Nat.le_refl _)
      rwa [List.take_of_length_le (by rw [List.length_drop]; omega)] at this
    have hlB : (fs'.drop q).length = fs'.length - q := List.length_drop
    have htold := told_any r b3 k (cutV v' 0 q 2) (fs'.take q) (fun j => J (i + j)) (fun j => Jx (i + j)) hA (fun j hj => hyD (i + j) _ (by rw [hl3.1 j (by omega), List.getD_eq_getElem?_getD, List.getElem?_eq_getElem hj]; rfl))
    rw [hlA] at htold
    simp only [Nat.add_zero] at htold
    by_cases hf : q < fs'.length ∧ (fs'.getD q default).path = p
    · rw [decide_eq_true hf]
      rw [if_pos hf] at hD
      have hRest : fs'.drop (q + 1) = fs'.filter (fun f => decide (p < f.path)) := hD
      have hC : Els r 2 encF (cutV (cutV v' q fs'.length 2) 1 (fs'.drop q).length 2) (fs'.drop (q + 1)) := by
        have := hB.cut (i := 1) (j := (fs'.drop q).length) (by omega) (Nat.le_refl _)
        rwa [List.take_of_length_le (by rw [List.length_drop]; omega), List.drop_drop] at this
      have hRR : RisK ((fs'.drop (q + 1)).map FileV.key) := by rw [List.map_drop]; exact List.Pairwise.sublist (List.drop_sublist _ _) hR
      have hnn : (fs'.drop (q + 1)).length ≤ 1000000 := by rw [List.length_drop]; omega
      cases tk
      · have hyp : Yld Try.prog r k [.agg [.string (bs p), cv].toArray] (J (i + q)) (J (i + q + 1)) (Jx (i + q + 1)) := hyD (i + q) (putF ⟨p, false, cv, cd⟩) (hl3.2.1 0 (by simp))
        have hlt2 : i + q < X.length := (List.getElem?_eq_some_iff.1 (hl3.2.1 0 (by simp))).1
        repeat' (first | ((with_reducible apply kx_call (f := 38) (cap := [.pointer (some ⟨b3, 0, none⟩)])); exact goesOf Try.func38 (by kernel_rfl) rfl; rfl; rfl; exact (htold); (exact atks); rintro v' H' (⟨rfl, rfl⟩ | ⟨q', hq', rfl, rfl⟩); all_goals ((try simp only [List.cons_append, List.nil_append]); (refine apk ?_))) | ((with_reducible apply sw_draw (id := 8) 6 [(0, true), (1, true), (2, true), (3, true), (4, true), (5, true)] [(6, false), (7, false), (8, false)] [(Bm, .cells [.pointer (some ⟨bm, 0, none⟩)].toArray 86 (0, 0)), (bm, .cells [cutV v' q fs'.length 2].toArray 51 (0, 0))]); kernel_rfl; (exact atks); kernel_rfl; intro r' hl') | ((with_reducible apply pi_pur); rfl; (exact qwt); (with_reducible apply pu_sl0); exact ty_el; exact ty_size; rfl; (exact qasl); (exact qbd); (omega); (refine apk ?_)) | ((with_reducible apply kx_store); exact ty_size; rfl; rfl; (exact qsw); (exact qon); (exact qss); (refine apk ?_)) | ((with_reducible apply kx_yield); rfl; exact (hyp); rfl; (exact atk); all_goals (refine apk ?_)) | (exfalso; first | contradiction | omega) | refine aw0 ?_ | (refine ap2 ?_ ?_ <;> try intro h) | refine aw1 ?_ | (refine abx ?_; intro bb) | (refine abz ?_; intro bz) | (refine ahv ?_; intro v' hv') | (refine aac ?_; intro ac cc) | refine aw2 ?_ | (refine ap4 ?_ ?_ <;> try intro h) | apply True.intro)
        · exact ⟨_, by omega, m + 1, i + q + 1, _, fs'.drop (q + 1), rfl, by omega, by omega, by rw [hRest]; exact hl3.2.2, hC, hRR, hnn, ⟨_, atks⟩, asls⟩
        · ((with_reducible apply fp_ret); exact res_0 rfl)
          exact HR.out _ _ _ [Jx (i + q + 1)] (by (exact atks)) (.inr ⟨i + q, [], hlt2, rfl⟩)
        · ((with_reducible apply fp_ret); exact res_0 rfl)
          exact HR.out _ _ _ [Jx (i + (q' + 1))] (by (exact atks)) (.inr ⟨i + q', [], by omega, rfl⟩)
      · repeat' (first | ((with_reducible apply kx_call (f := 38) (cap := [.pointer (some ⟨b3, 0, none⟩)])); exact goesOf Try.func38 (by kernel_rfl) rfl; rfl; rfl; exact (htold); (exact atks); rintro v' H' (⟨rfl, rfl⟩ | ⟨q', hq', rfl, rfl⟩); all_goals ((try simp only [List.cons_append, List.nil_append]); (refine apk ?_))) | ((with_reducible apply sw_draw (id := 8) 6 [(0, true), (1, true), (2, true), (3, true), (4, true), (5, true)] [(6, false), (7, false), (8, false)] [(Bm, .cells [.pointer (some ⟨bm, 0, none⟩)].toArray 86 (0, 0)), (bm, .cells [cutV v' q fs'.length 2].toArray 51 (0, 0))]); kernel_rfl; (exact atks); kernel_rfl; intro r' hl') | ((with_reducible apply pi_pur); rfl; (exact qwt); (with_reducible apply pu_sl0); exact ty_el; exact ty_size; rfl; (exact qasl); (exact qbd); (omega); (refine apk ?_)) | ((with_reducible apply kx_store); exact ty_size; rfl; rfl; (exact qsw); (exact qon); (exact qss); (refine apk ?_)) | (exfalso; first | contradiction | omega) | refine aw0 ?_ | (refine ap2 ?_ ?_ <;> try intro h) | refine aw1 ?_ | (refine abx ?_; intro bb) | (refine abz ?_; intro bz) | (refine ahv ?_; intro v' hv') | (refine aac ?_; intro ac cc) | refine aw2 ?_ | (refine ap4 ?_ ?_ <;> try intro h) | apply True.intro)
        · exact ⟨_, by omega, m + 1, i + q, _, fs'.drop (q + 1), rfl, by omega, by omega, by rw [hRest]; exact hl3.2.2, hC, hRR, hnn, ⟨_, atks⟩, asls⟩
        · ((with_reducible apply fp_ret); exact res_0 rfl)
          exact HR.out _ _ _ [Jx (i + (q' + 1))] (by (exact atks)) (.inr ⟨i + q', [], by omega, rfl⟩)
    · rw [decide_eq_false hf]
      rw [if_neg hf] at hD
      have hRest : fs'.drop q = fs'.filter (fun f => decide (p < f.path)) := hD
      have hRR : RisK ((fs'.drop q).map FileV.key) := by rw [List.map_drop]; exact List.Pairwise.sublist (List.drop_sublist _ _) hR
      have hnn : (fs'.drop q).length ≤ 1000000 := by rw [List.length_drop]; omega
      cases tk
      · have hyp : Yld Try.prog r k [.agg [.string (bs p), cv].toArray] (J (i + q)) (J (i + q + 1)) (Jx (i + q + 1)) := hyD (i + q) (putF ⟨p, false, cv, cd⟩) (hl3.2.1 0 (by simp))
        have hlt2 : i + q < X.length := (List.getElem?_eq_some_iff.1 (hl3.2.1 0 (by simp))).1
        repeat' (first | ((with_reducible apply kx_call (f := 38) (cap := [.pointer (some ⟨b3, 0, none⟩)])); exact goesOf Try.func38 (by kernel_rfl) rfl; rfl; rfl; exact (htold); (exact atks); rintro v' H' (⟨rfl, rfl⟩ | ⟨q', hq', rfl, rfl⟩); all_goals ((try simp only [List.cons_append, List.nil_append]); (refine apk ?_))) | ((with_reducible apply kx_yield); rfl; exact (hyp); rfl; (exact atk); all_goals (refine apk ?_)) | (exfalso; first | contradiction | omega) | refine aw0 ?_ | (refine ap2 ?_ ?_ <;> try intro h) | refine aw1 ?_ | (refine abx ?_; intro bb) | (refine abz ?_; intro bz) | (refine ahv ?_; intro v' hv') | (refine aac ?_; intro ac cc) | refine aw2 ?_ | (refine ap4 ?_ ?_ <;> try intro h) | apply True.intro)
        · exact ⟨_, by omega, m + 1, i + q + 1, _, fs'.drop q, rfl, by omega, by omega, by rw [hRest]; exact hl3.2.2, hB, hRR, hnn, ⟨_, atks⟩, asls⟩
        · ((with_reducible apply fp_ret); exact res_0 rfl)
          exact HR.out _ _ _ [Jx (i + q + 1)] (by (exact atks)) (.inr ⟨i + q, [], hlt2, rfl⟩)
        · ((with_reducible apply fp_ret); exact res_0 rfl)
          exact HR.out _ _ _ [Jx (i + (q' + 1))] (by (exact atks)) (.inr ⟨i + q', [], by omega, rfl⟩)
      · repeat' (first | ((with_reducible apply kx_call (f := 38) (cap := [.pointer (some ⟨b3, 0, none⟩)])); exact goesOf Try.func38 (by kernel_rfl) rfl; rfl; rfl; exact (htold); (exact atks); rintro v' H' (⟨rfl, rfl⟩ | ⟨q', hq', rfl, rfl⟩); all_goals ((try simp only [List.cons_append, List.nil_append]); (refine apk ?_))) | (exfalso; first | contradiction | omega) | refine aw0 ?_ | (refine ap2 ?_ ?_ <;> try intro h) | refine aw1 ?_ | (refine abx ?_; intro bb) | (refine abz ?_; intro bz) | (refine ahv ?_; intro v' hv') | (refine aac ?_; intro ac cc) | refine aw2 ?_ | (refine ap4 ?_ ?_ <;> try intro h) | apply True.intro)
        · exact ⟨_, by omega, m + 1, i + q, _, fs'.drop q, rfl, by omega, by omega, by rw [hRest]; exact hl3.2.2, hB, hRR, hnn, ⟨_, atks⟩, asls⟩
        · ((with_reducible apply fp_ret); exact res_0 rfl)
          exact HR.out _ _ _ [Jx (i + (q' + 1))] (by (exact atks)) (.inr ⟨i + q', [], by omega, rfl⟩)
  · obtain rfl : m = cs.length := by omega
    rw [List.drop_length, show behindV fs' [] = fs' from rfl] at hX
    have htold := told_any r b3 k v' fs' (fun j => J (i + j)) (fun j => Jx (i + j)) hE (fun j hj => hyD (i + j) _ (by rw [← List.getElem?_drop, hX, List.getD_eq_getElem?_getD, List.getElem?_eq_getElem hj]; rfl))
    have hlen : i + fs'.length = X.length := by have := congrArg List.length hX; rw [List.length_drop] at this; omega
    simp only [Nat.add_zero] at htold
    rw [hlen] at htold
    repeat' (first | ((with_reducible apply kx_call (f := 38) (cap := [.pointer (some ⟨b3, 0, none⟩)])); exact goesOf Try.func38 (by kernel_rfl) rfl; rfl; rfl; exact (htold); (exact atks); rintro v' H' (⟨rfl, rfl⟩ | ⟨q', hq', rfl, rfl⟩); all_goals ((try simp only [List.cons_append, List.nil_append]); (refine apk ?_))) | (exfalso; first | contradiction | omega) | refine aw0 ?_ | (refine ap2 ?_ ?_ <;> try intro h) | refine aw1 ?_ | (refine abx ?_; intro bb) | (refine abz ?_; intro bz) | (refine ahv ?_; intro v' hv') | (refine aac ?_; intro ac cc) | refine aw2 ?_ | (refine ap4 ?_ ?_ <;> try intro h) | apply True.intro)
    · ((with_reducible apply fp_end); exact res_0 rfl)
      exact HR.out _ _ _ [J X.length] (by (exact atks)) (.inl rfl)
    · ((with_reducible apply fp_end); exact res_0 rfl)
      exact HR.out _ _ _ [Jx (i + (q' + 1))] (by (exact atks)) (.inr ⟨i + q', [], by omega, rfl⟩)
end Go.Proofs.Ytmnehdpclnhmbaa
