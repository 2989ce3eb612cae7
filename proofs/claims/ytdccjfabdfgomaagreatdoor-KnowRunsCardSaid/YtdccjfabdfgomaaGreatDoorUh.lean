
/- query.things, query.Text: their contracts. -/
import Derived.Test.YtdccjfabdfgomaaGreatDoorUg
namespace Go.Proofs.YtdccjfabdfgomaaGreatDoor
open Go.RowKit Go.Maps Sx

def tellT (s : Tx) : List Value := [.string (bs s)]
def thingsT (q : QuV) : List Tx := q.grams.map gramT ++ q.subs.map fun s => textQ s.key
def TextT (q : QuV) : Prop := ∀ r : Hp, TabR r → QuR r q → Tri Tryz.prog r 25 [.agg (encQ q).toArray] [] fun w H => w = .string (bs (textQ q.key)) ∧ H = []
abbrev qbox (b : Nat) (q : QuV) : Ch := pt b (.cells [.int .i64 q.kind, q.gv, q.sv].toArray 27 (0, 0))
theorem gramT_take {g : Tx} {j : Nat} (h : j < g.length) : gramT (g.take (j + 1)) = gramT (g.take j) ++ hex2 (g.getD j 0) := by
  rw [take_getD (d := 0) h]
  unfold gramT
  rw [List.flatMap_append]; simp
theorem nil_u8 : U8R (.slice none 0 0) [] emp := RowC.nil _ _
set_option maxRecDepth 10000 in
set_option maxHeartbeats 8000000 in
theorem things_seq (r : Hp) (hT : TabR r) (B : Nat) (q : QuV) (hq : QuR r q) (hs : sizeQ q.key ≤ 9000000) (ih : ∀ s ∈ q.subs, TextT s) : Seq Tryz.prog r 72 [.pointer (some ⟨B, 0, none⟩)] tellT (thingsT q) [qbox B q] [] := by
  intro k J Jx hy
  obtain ⟨X, hX⟩ : ∃ X, thingsT q = X := ⟨_, rfl⟩
  rw [hX] at hy ⊢
  refine Tri.free2 fun R HR => ?_
  obtain ⟨h1, h2, h3⟩ := quR_iff.1 hq
  have hl1 := maxI h1.2.2.1
  have hl2 := maxI h2.2.2.1
  have hsz := size_parts q.key
  rw [key_grams, key_subs] at hsz
  have hXl : X.length = q.grams.length + q.subs.length := by rw [← hX]; unfold thingsT; rw [List.length_append, List.length_map, List.length_map]
  refine fn_of_sw Tryz.func72 rfl _ rfl ?_; refine aen Tryz.ntmps72 ?_
  repeat' (first | (exfalso; first | contradiction | omega) | refine aw0 ?_ | (refine ap2 ?_ ?_ <;> try intro h) | refine aw1 ?_ | (refine abx ?_; intro bb) | (refine abz ?_; intro bz) | (refine ahv ?_; intro v' hv') | (refine aac ?_; intro ac cc) | refine aw2 ?_ | (refine ap4 ?_ ?_ <;> try intro h) | apply True.intro)
  refine sw_loop (fun gm t H' => ∃ (m : Nat), gm = q.grams.length + 1 - m ∧ (m ≤ q.grams.length) ∧ (∃ G, Takes [qbox B q, J m] H' G) ∧ Sls t 49 [(0, .func (.yield k) #[] #[]), (1, .pointer (some ⟨B, 0, none⟩)), (11, q.gv), (12, .int .i64 q.grams.length), (13, .int .i64 m)]) _ ⟨0, rfl, Nat.zero_le _, ⟨_, atks⟩, asls⟩ ?_
  rintro gm t H' ⟨m, rfl, hm, ⟨G, hp⟩, hs'⟩
  revert t; refine sls_all ?_; iterate 44 intro uu'
  refine sw_takeG hp ?_; clear hp
  by_cases hlt : m < q.grams.length
  · obtain ⟨g, hg⟩ : ∃ g, q.grams.getD m default = g := ⟨_, rfl⟩
    have hgm : g ∈ q.grams := hg ▸ getD_memU hlt
    have hgl := sizeT_mem hgm
    have hXm : ∃ h : m < X.length, X[m] = gramT g := ⟨by omega, by
      have h4 : X[m]? = some (gramT g) := by
        rw [← hX]
        unfold thingsT
        rw [List.getElem?_append_left (by rw [List.length_map]; exact hlt), List.getElem?_map, List.getElem?_eq_getElem hlt, ← hg, List.getD_eq_getElem?_getD, List.getElem?_eq_getElem hlt]; rfl
      exact (List.getElem?_eq_some_iff.1 h4).2⟩
    obtain ⟨hmx, hXm⟩ := hXm
    have hyp := hy m hmx
    rw [hXm, show tellT (gramT g) = [.string (bs (gramT g))] from rfl] at hyp
    have hgml : g.length ≤ maxLen := by unfold maxLen; omega
    repeat' (first | (rw [hg]) | ((with_reducible apply kx_alloc (E := 120)); exact ty_zero; (exact qcl); intro b5; (refine apk ?_)) | (exfalso; first | contradiction | omega) | refine aw0 ?_ | (refine ap2 ?_ ?_ <;> try intro h) | refine aw1 ?_ | (refine abx ?_; intro bb) | (refine abz ?_; intro bz) | (refine ahv ?_; intro v' hv') | (refine aac ?_; intro ac cc) | refine aw2 ?_ | (refine ap4 ?_ ?_ <;> try intro h) | apply True.intro)
    refine sw_put (A := U8R (.slice none 0 0) []) nil_u8 ?_
    refine sw_lendQ (A := RdC (.slice ac g.length cc) g) (by (exact atk)) fun r2 g2 hr2 hg2 hA2 => ?_
    have hgr : U8S r2 (.slice ac g.length cc) g := Sl.mono hA2 hg2
    refine sw_loop (fun gm t H' => ∃ (j : Nat) (p a : Option Addr) (c' : Nat), gm = g.length + 1 - j ∧ (j ≤ g.length) ∧ (p = none ∨ p = some ⟨b5, 0, none⟩) ∧ (j = 0 → a = none ∧ c' = 0) ∧ (∃ G, Takes [qbox B q, J m, bldC b5 p (.slice a (gramT (g.take j)).length c'), U8R (.slice a (gramT (g.take j)).length c') (gramT (g.take j))] H' G) ∧ Sls t 49 [(0, .func (.yield k) #[] #[]), (1, .pointer (some ⟨B, 0, none⟩)), (5, .pointer (some ⟨b5, 0, none⟩)), (11, q.gv), (12, .int .i64 q.grams.length), (13, .int .i64 m), (18, .slice ac g.length cc), (19, .int .i64 g.length), (20, .int .i64 j)]) _ ⟨0, none, none, 0, rfl, Nat.zero_le _, .inl rfl, fun _ => ⟨rfl, rfl⟩, ⟨_, atks⟩, asls⟩ ?_
    rintro gm t H' ⟨j, p, a, c', rfl, hj, hp1, hj0, ⟨G, hp⟩, hs'⟩
    revert t; refine sls_all ?_; iterate 40 intro uu'
    refine sw_takeG hp ?_; clear hp
    by_cases hlt2 : j < g.length
    · obtain ⟨c, hc⟩ : ∃ c, g.getD j 0 = c := ⟨_, rfl⟩
      have hct := c.toNat_lt
      have hgt := gramT_take hlt2
      rw [hc] at hgt
      have htl : (gramT (g.take j)).length ≤ 2 * g.length := by rw [gramT_len, List.length_take]; omega
      have hf := fmt_any r2 (hT.mono hr2) c
      have hx2 : (hex2 c).length = 2 := rfl
      have hx3 : (49 :: hex2 c).length = 3 := rfl
      have hsl : (List.drop (Int.toNat 1) (49 :: hex2 c)).take (((49 :: hex2 c).length : Int).toNat - Int.toNat 1) = hex2 c := rfl
      have hw := wstrU_any r2 b5 c' p a (hex2 c) (gramT (g.take j)) hp1 (by omega)
      repeat' (first | (rw [hc]) | (rw [hsl]) | (refine acl Tryz.func74 ?_; refine acr (hf) ?_; rintro v' H' ⟨rfl, rfl⟩; all_goals refine apl ?_) | (refine acl Tryz.func73 ?_; refine acr (hw) ?_; rintro v' H' ⟨a3, c3, rfl⟩; all_goals refine apl ?_) | (exfalso; first | contradiction | omega) | refine aw0 ?_ | (refine ap2 ?_ ?_ <;> try intro h) | refine aw1 ?_ | (refine abx ?_; intro bb) | (refine abz ?_; intro bz) | (refine ahv ?_; intro v' hv') | (refine aac ?_; intro ac cc) | refine aw2 ?_ | (refine ap4 ?_ ?_ <;> try intro h) | apply True.intro)
      exact ⟨_, by omega, j + 1, some ⟨b5, 0, none⟩, a3, c3, rfl, by omega, .inr rfl, fun h => (by omega), ⟨_, by rw [hgt]; exact atks⟩, asls⟩
    · obtain rfl : j = g.length := by omega
      rw [List.take_length]
      by_cases hg0 : g = []
      · obtain ⟨rfl, rfl⟩ := hj0 (by rw [hg0]; rfl)
        subst hg0
        have hst := bstr0_any r b5 p
        repeat' (first | (refine acl Tryz.func75 ?_; refine acr (hst) ?_; rintro v' H' ⟨rfl, rfl⟩; all_goals refine apl ?_) | ((with_reducible apply kx_yield); rfl; exact (hyp); rfl; (exact atk); all_goals (refine apk ?_)) | (exfalso; first | contradiction | omega) | refine aw0 ?_ | (refine ap2 ?_ ?_ <;> try intro h) | refine aw1 ?_ | (refine abx ?_; intro bb) | (refine abz ?_; intro bz) | (refine ahv ?_; intro v' hv') | (refine aac ?_; intro ac cc) | refine aw2 ?_ | (refine ap4 ?_ ?_ <;> try intro h) | apply True.intro)
        · exact ⟨_, by omega, m + 1, rfl, by omega, ⟨_, atks⟩, asls⟩
        · ((with_reducible apply fp_ret); exact res_0 rfl)
          exact HR.out _ _ _ [Jx (m + 1)] (by (exact atks)) (.inr ⟨m, [], hmx, rfl⟩)
      · have hgp : 0 < g.length := List.length_pos_iff.2 hg0
        have hgq := gramT_len g
        have hst := bstr_any r b5 c' p a (gramT g) (fun e => by rw [e] at hgq; simp at hgq; omega) (by omega)
        repeat' (first | (refine acl Tryz.func75 ?_; refine acr (hst) ?_; rintro v' H' ⟨rfl, rfl⟩; all_goals refine apl ?_) | ((with_reducible apply kx_yield); rfl; exact (hyp); rfl; (exact atk); all_goals (refine apk ?_)) | (exfalso; first | contradiction | omega) | refine aw0 ?_ | (refine ap2 ?_ ?_ <;> try intro h) | refine aw1 ?_ | (refine abx ?_; intro bb) | (refine abz ?_; intro bz) | (refine ahv ?_; intro v' hv') | (refine aac ?_; intro ac cc) | refine aw2 ?_ | (refine ap4 ?_ ?_ <;> try intro h) | apply True.intro)
        · exact ⟨_, by omega, m + 1, rfl, by omega, ⟨_, atks⟩, asls⟩
        · ((with_reducible apply fp_ret); exact res_0 rfl)
          exact HR.out _ _ _ [Jx (m + 1)] (by (exact atks)) (.inr ⟨m, [], hmx, rfl⟩)
  · obtain rfl : m = q.grams.length := by omega
    repeat' (first | (exfalso; first | contradiction | omega) | refine aw0 ?_ | (refine ap2 ?_ ?_ <;> try intro h) | refine aw1 ?_ | (refine abx ?_; intro bb) | (refine abz ?_; intro bz) | (refine ahv ?_; intro v' hv') | (refine aac ?_; intro ac cc) | refine aw2 ?_ | (refine ap4 ?_ ?_ <;> try intro h) | apply True.intro)
    refine sw_loop (fun gm t H' => ∃ (m : Nat), gm = q.subs.length + 1 - m ∧ (m ≤ q.subs.length) ∧ (∃ G, Takes [qbox B q, J (q.grams.length + m)] H' G) ∧ Sls t 49 [(0, .func (.yield k) #[] #[]), (37, q.sv), (38, .int .i64 q.subs.length), (39, .int .i64 m)]) _ ⟨0, rfl, Nat.zero_le _, ⟨_, atks⟩, asls⟩ ?_
    rintro gm t H' ⟨m, rfl, hm, ⟨G, hp⟩, hs'⟩
    revert t; refine sls_all ?_; iterate 45 intro uu'
    refine sw_takeG hp ?_; clear hp
    by_cases hlt : m < q.subs.length
    · obtain ⟨s, hg⟩ : ∃ s, q.subs.getD m default = s := ⟨_, rfl⟩
      have hgm : s ∈ q.subs := hg ▸ getD_memU hlt
      have hsr := h3 s hgm
      have hse : encQ s = [.int .i64 s.kind, s.gv, s.sv] := rfl
      have hsg := (quR_iff.1 hsr).1
      have hsq := (quR_iff.1 hsr).2.1
      have htx := ih s hgm r hT hsr
      rw [hse] at htx
      have hXm : ∃ h : q.grams.length + m < X.length, X[q.grams.length + m] = textQ s.key := ⟨by omega, by
        have h4 : X[q.grams.length + m]? = some (textQ s.key) := by
          rw [← hX]
          unfold thingsT
          rw [List.getElem?_append_right (by rw [List.length_map]; omega), List.length_map, Nat.add_sub_cancel_left, List.getElem?_map, List.getElem?_eq_getElem hlt, ← hg, List.getD_eq_getElem?_getD, List.getElem?_eq_getElem hlt]; rfl
        exact (List.getElem?_eq_some_iff.1 h4).2⟩
      obtain ⟨hmx, hXm⟩ := hXm
      have hyp := hy _ hmx
      rw [hXm, show tellT (textQ s.key) = [.string (bs (textQ s.key))] from rfl] at hyp
      repeat' (first | (rw [hg]) | (rw [hse]) | ((with_reducible apply kx_alloc (E := 27)); exact ty_zero; (exact qcl); intro b9; (refine apk ?_)) | (refine acl Tryz.func25 ?_; refine acr (htx) ?_; rintro v' H' ⟨rfl, rfl⟩; all_goals refine apl ?_) | ((with_reducible apply kx_yield); rfl; exact (hyp); rfl; (exact atk); all_goals (refine apk ?_)) | (exfalso; first | contradiction | omega) | refine aw0 ?_ | (refine ap2 ?_ ?_ <;> try intro h) | refine aw1 ?_ | (refine abx ?_; intro bb) | (refine abz ?_; intro bz) | (refine ahv ?_; intro v' hv') | (refine aac ?_; intro ac cc) | refine aw2 ?_ | (refine ap4 ?_ ?_ <;> try intro h) | apply True.intro)
      · exact ⟨_, by omega, m + 1, rfl, by omega, ⟨_, atks⟩, asls⟩
      · ((with_reducible apply fp_ret); exact res_0 rfl)
        exact HR.out _ _ _ [Jx (q.grams.length + m + 1)] (by (exact atks)) (.inr ⟨q.grams.length + m, [], hmx, rfl⟩)
    · obtain rfl : m = q.subs.length := by omega
      rw [← hXl]
      repeat' (first | (exfalso; first | contradiction | omega) | refine aw0 ?_ | (refine ap2 ?_ ?_ <;> try intro h) | refine aw1 ?_ | (refine abx ?_; intro bb) | (refine abz ?_; intro bz) | (refine ahv ?_; intro v' hv') | (refine aac ?_; intro ac cc) | refine aw2 ?_ | (refine ap4 ?_ ?_ <;> try intro h) | apply True.intro)
      ((with_reducible apply fp_end); exact res_0 rfl)
      exact HR.out _ _ _ [J X.length] (by (exact atks)) (.inl rfl)
set_option maxRecDepth 10000 in
set_option maxHeartbeats 2000000 in
theorem thingsF_any (r : Hp) (q : QuV) : Tri Tryz.prog r 43 [.agg (encQ q).toArray] [] fun w H => ∃ B, w = .func (.func 72) #[] #[.pointer (some ⟨B, 0, none⟩)] ∧ H = [qbox B q] := by
  refine Tri.free2 fun R HR => ?_
  show Tri _ _ _ [.agg [.int .i64 q.kind, q.gv, q.sv].toArray] _ _
  refine fn_of_sw Tryz.func43 rfl _ rfl ?_; refine aen Tryz.ntmps43 ?_
  repeat' (first | ((with_reducible apply kx_box); rfl; (exact qcl); intro b1; (refine apk ?_)) | (exfalso; first | contradiction | omega) | refine aw0 ?_ | (refine ap2 ?_ ?_ <;> try intro h) | refine aw1 ?_ | (refine abx ?_; intro bb) | (refine abz ?_; intro bz) | (refine ahv ?_; intro v' hv') | (refine aac ?_; intro ac cc) | refine aw2 ?_ | (refine ap4 ?_ ?_ <;> try intro h) | apply True.intro)
  ((with_reducible apply fp_ret); exact res_1 rfl rfl)
  exact HR.out _ _ _ [_] (by (exact atks)) ⟨b1, rfl, rfl⟩
end Go.Proofs.YtdccjfabdfgomaaGreatDoor
