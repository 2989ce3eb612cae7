
/- mudlarklaw16.awake: its contract. -/
import Derived.Test.YtgodcegaffgfjaaDoorVm
import Derived.Test.YtgodcegaffgfjaaDoorVo
namespace Go.Proofs.YtgodcegaffgfjaaDoor
open Go.RowKit Sx

theorem encQ_eq (q : QuV) : encQ q = [.int .i64 q.kind, q.gv, q.sv] := rfl
theorem gramsQ_one {g : Tx} (h : g.length = 3) : gramsQ [g] = .mk 3 [g] [] := by
  unfold gramsQ
  rw [if_neg (by simp [h])]
  exact andQ_one (right_iff.2 (.and (fun s h => by cases h) (by simp) (fun x hx => by rw [List.mem_singleton.1 hx]; exact h) (List.pairwise_singleton _ _) List.Pairwise.nil))
def abcX : Tx := [97, 98, 99]
def bcdX : Tx := [98, 99, 100]
theorem awA : andQ [.mk 3 [bcdX] [], .mk 3 [abcX] []] = .mk 3 [abcX, bcdX] [] := rfl
theorem awO : orQ [.mk 3 [abcX] [], .mk 2 [] []] = .mk 3 [abcX] [] := rfl
theorem awT : textQ (.mk 3 [abcX, bcdX] []) = [40, 54, 49, 54, 50, 54, 51, 38, 54, 50, 54, 51, 54, 52, 41] := rfl
theorem awU : textQ (.mk 3 [abcX] []) = [40, 54, 49, 54, 50, 54, 51, 41] := rfl
theorem awR : rightQ (.mk 3 [abcX, bcdX] []) = true := rfl
theorem awS : satQ (hasT [bcdX, abcX]) (.mk 3 [abcX, bcdX] []) = true := rfl
theorem awN : satQ (hasT [abcX]) (.mk 3 [abcX, bcdX] []) = false := rfl
theorem size_mk (k n : Int) (Gs : List Tx) (S : List Qu) : sizeQ (mkQ k n Gs S) ≤ 1 + sizeT Gs + sizeQs S := by
  obtain ⟨h1, h2⟩ := size_sort Gs S
  rcases mkQ_cases k n Gs S with ⟨h, e⟩ | ⟨g, e1, e2, e⟩ | ⟨q, e1, e2, e⟩ | ⟨_, _, e⟩
  · rw [e]; simp only [sizeQ]; omega
  · rw [e]; rw [e1] at h1; simp only [sizeQ, sizeQs]; omega
  · rw [e]; rw [e2] at h2; simp only [sizeQs] at h2; omega
  · rw [e]; simp only [sizeQ, sizeQs, sizeT]; omega
theorem size_andQ (l : List Qu) : sizeQ (andQ l) ≤ 1 + sizeQs l := by
  have h := size_flat size_gA l
  unfold andQ
  split
  · simp only [sizeQ, sizeQs, sizeT]; omega
  · have := size_mk 3 1 (l.flatMap gA) (l.flatMap sA); omega
theorem size_orQ (l : List Qu) : sizeQ (orQ l) ≤ 1 + sizeQs l := by
  have h := size_flat size_gO l
  unfold orQ
  split
  · simp only [sizeQ, sizeQs, sizeT]; omega
  · have := size_mk 4 2 (l.flatMap gO) (l.flatMap sO); omega
/-- A row of queries that is written out in a block. -/
theorem lit_els {r : Hp} {b n : Nat} {l : List QuV} {c : List Value} {E : TypeId} {fz : Nat × Nat} (h : r b = some (.cells c.toArray E fz)) (hc : l.flatMap encQ = c) (hn : l.length = n) (hm : n ≤ 1000) : Els r 3 encQ (.slice (some ⟨b, 0, none⟩) n n) l := by
  subst hn
  refine ⟨fun _ => rfl, flat_len (sz := 3) (fun _ => rfl) l, by unfold maxLen; omega, .inr ⟨b, 0, _, c.toArray, E, fz, rfl, Nat.le_refl _, h, fun j hj => ?_⟩⟩
  subst hc
  rw [Nat.zero_add, List.getElem?_toArray, List.getElem?_eq_getElem hj]
theorem lit_txs {r : Hp} {b n : Nat} {l : List Tx} {c : List Value} {E : TypeId} {fz : Nat × Nat} (h : r b = some (.cells c.toArray E fz)) (hc : l.flatMap encTx = c) (hn : l.length = n) (hm : n ≤ 1000) : Els r 1 encTx (.slice (some ⟨b, 0, none⟩) n n) l := by
  subst hn
  refine ⟨fun _ => rfl, flat_len (sz := 1) (fun _ => rfl) l, by unfold maxLen; omega, .inr ⟨b, 0, _, c.toArray, E, fz, rfl, Nat.le_refl _, h, fun j hj => ?_⟩⟩
  subst hc
  rw [Nat.zero_add, List.getElem?_toArray, List.getElem?_eq_getElem hj]
theorem gramOne_any (r : Hp) (hT : TabR r) (b : Nat) (g : Tx) (h3 : g.length = 3) (h : r b = some (.cells [.string (bs g)].toArray 9 (0, 0))) : Tri Tryd.prog r 14 [.slice (some ⟨b, 0, none⟩) 1 1] [] fun w H => ∃ q : QuV, q.key = .mk 3 [g] [] ∧ (encQ q).all one? = true ∧ w = .agg [.int .i64 q.kind, q.gv, q.sv].toArray ∧ H = [OwnQ q] := by
  have hc := grams_any r hT (.slice (some ⟨b, 0, none⟩) 1 1) [g] (lit_txs h rfl rfl (by omega)) (by simp [sizeT, h3])
  rw [gramsQ_one h3] at hc
  exact hc
theorem andLit_any (r : Hp) (hT : TabR r) {b n : Nat} (l : List QuV) {c : List Value} {E : TypeId} {fz : Nat × Nat} (h : r b = some (.cells c.toArray E fz)) (hc : l.flatMap encQ = c) (hn : l.length = n) (hm : n ≤ 1000) (hl : ∀ q ∈ l, QuR r q) (hr : Right (l.map QuV.key)) (hs : sizeQs (l.map QuV.key) ≤ 8000000) : Tri Tryd.prog r 10 [.slice (some ⟨b, 0, none⟩) n n] [] fun w H => ∃ q : QuV, q.key = andQ (l.map QuV.key) ∧ (encQ q).all one? = true ∧ w = .agg [.int .i64 q.kind, q.gv, q.sv].toArray ∧ H = [OwnQ q] :=
  and_any r hT _ l (lit_els h hc hn hm) hl (told_right (right_sA hr)) hs
theorem orLit_any (r : Hp) (hT : TabR r) {b n : Nat} (l : List QuV) {c : List Value} {E : TypeId} {fz : Nat × Nat} (h : r b = some (.cells c.toArray E fz)) (hc : l.flatMap encQ = c) (hn : l.length = n) (hm : n ≤ 1000) (hl : ∀ q ∈ l, QuR r q) (hr : Right (l.map QuV.key)) (hs : sizeQs (l.map QuV.key) ≤ 8000000) : Tri Tryd.prog r 11 [.slice (some ⟨b, 0, none⟩) n n] [] fun w H => ∃ q : QuV, q.key = orQ (l.map QuV.key) ∧ (encQ q).all one? = true ∧ w = .agg [.int .i64 q.kind, q.gv, q.sv].toArray ∧ H = [OwnQ q] :=
  or_any r hT _ l (lit_els h hc hn hm) hl (told_right (right_sO hr)) hs
theorem right_g1 {g : Tx} (h : g.length = 3) : rightQ (.mk 3 [g] []) = true := right_iff.2 (.and (fun s h => by cases h) (by simp) (fun x hx => by rw [List.mem_singleton.1 hx]; exact h) (List.pairwise_singleton _ _) List.Pairwise.nil)
theorem right_n2 : rightQ (.mk 2 [] []) = true := right_iff.2 .none
theorem right_two {a b : Qu} (ha : rightQ a = true) (hb : rightQ b = true) : Right [a, b] := fun q hq => by
  rcases List.mem_cons.1 hq with rfl | hq
  · exact ha
  · rw [List.mem_singleton.1 hq]; exact hb
theorem two_read {r : Hp} {a b : QuV} (ha : QuR r a) (hb : QuR r b) : ∀ q ∈ [a, b], QuR r q := fun q hq => by
  rcases List.mem_cons.1 hq with rfl | hq
  · exact ha
  · rw [List.mem_singleton.1 hq]; exact hb
def nilQ (k : Int) : QuV := .mk k (.slice none 0 0) [] (.slice none 0 0) []
theorem nilQ_read (r : Hp) {k : Int} (hk : KindR k) : QuR r (nilQ k) := quR_iff.2 hk ⟨⟨fun _ => rfl, rfl, Nat.zero_le _, .inl ⟨⟨none, rfl⟩, rfl⟩⟩, ⟨fun _ => rfl, rfl, Nat.zero_le _, .inl ⟨⟨none, rfl⟩, rfl⟩⟩, fun s hs => by cases hs⟩
theorem nilQ_key (k : Int) : (nilQ k).key = .mk k [] [] := key_mk _ _ _ _ _
theorem awAnd (r : Hp) (hT : TabR r) (b : Nat) (q1 q2 : QuV) (h : r b = some (.cells [.int .i64 q1.kind, q1.gv, q1.sv, .int .i64 q2.kind, q2.gv, q2.sv].toArray 30 (0, 0))) (r1 : QuR r q1) (r2 : QuR r q2) (k1 : q1.key = .mk 3 [bcdX] []) (k2 : q2.key = .mk 3 [abcX] []) : Tri Tryd.prog r 10 [.slice (some ⟨b, 0, none⟩) 2 2] [] fun w H => ∃ q : QuV, q.key = .mk 3 [abcX, bcdX] [] ∧ (encQ q).all one? = true ∧ w = .agg [.int .i64 q.kind, q.gv, q.sv].toArray ∧ H = [OwnQ q] := by
  have hc := andLit_any r hT (n := 2) [q1, q2] h rfl rfl (by omega) (two_read r1 r2) (by rw [List.map_cons, List.map_singleton, k1, k2]; exact right_two (right_g1 rfl) (right_g1 rfl)) (by rw [List.map_cons, List.map_singleton, k1, k2]; decide)
  rw [List.map_cons, List.map_singleton, k1, k2, awA] at hc
  exact hc
theorem awOr (r : Hp) (hT : TabR r) (b : Nat) (q1 : QuV) (h : r b = some (.cells [.int .i64 q1.kind, q1.gv, q1.sv, .int .i64 2, .slice none 0 0, .slice none 0 0].toArray 30 (0, 0))) (r1 : QuR r q1) (k1 : q1.key = .mk 3 [abcX] []) : Tri Tryd.prog r 11 [.slice (some ⟨b, 0, none⟩) 2 2] [] fun w H => ∃ q : QuV, q.key = .mk 3 [abcX] [] ∧ (encQ q).all one? = true ∧ w = .agg [.int .i64 q.kind, q.gv, q.sv].toArray ∧ H = [OwnQ q] := by
  have hc := orLit_any r hT (n := 2) [q1, nilQ 2] h rfl rfl (by omega) (two_read r1 (nilQ_read r (by unfold KindR; omega))) (by rw [List.map_cons, List.map_singleton, k1, nilQ_key]; exact right_two (right_g1 rfl) right_n2) (by rw [List.map_cons, List.map_singleton, k1, nilQ_key]; decide)
  rw [List.map_cons, List.map_singleton, k1, nilQ_key, awO] at hc
  exact hc
theorem aw_text {r : Hp} (hT : TabR r) {q : QuV} (hq : QuR r q) (hk : q.key = .mk 3 [abcX, bcdX] []) : Tri Tryd.prog r 13 [.agg [.int .i64 q.kind, q.gv, q.sv].toArray] [] fun w H => w = .string (bs [40, 54, 49, 54, 50, 54, 51, 38, 54, 50, 54, 51, 54, 52, 41]) ∧ H = [] := by
  have h := text_any q (by rw [hk]; decide) r hT hq
  rw [hk, awT] at h
  exact h
theorem aw_text5 {r : Hp} (hT : TabR r) {q : QuV} (hq : QuR r q) (hk : q.key = .mk 3 [abcX] []) : Tri Tryd.prog r 13 [.agg [.int .i64 q.kind, q.gv, q.sv].toArray] [] fun w H => w = .string (bs [40, 54, 49, 54, 50, 54, 51, 41]) ∧ H = [] := by
  have h := text_any q (by rw [hk]; decide) r hT hq
  rw [hk, awU] at h
  exact h
theorem aw_right {r : Hp} (hT : TabR r) {q : QuV} (hq : QuR r q) (hk : q.key = .mk 3 [abcX, bcdX] []) : Tri Tryd.prog r 8 [.agg [.int .i64 q.kind, q.gv, q.sv].toArray] [] fun w H => w = .bool true ∧ H = [] := by
  have h := right_any q (by rw [hk]; decide) r hT hq
  rw [hk, awR] at h
  exact h
theorem aw_sat {r : Hp} {q : QuV} {b : Nat} (hq : QuR r q) (hk : q.key = .mk 3 [abcX, bcdX] []) (hb : r b = some (.cells [.string (bs [98, 99, 100]), .string (bs [97, 98, 99])].toArray 9 (0, 0))) : Tri Tryd.prog r 9 [.agg [.int .i64 q.kind, q.gv, q.sv].toArray, .slice (some ⟨b, 0, none⟩) 2 2] [] fun w H => w = .bool true ∧ H = [] := by
  have h := sat_any r (.slice (some ⟨b, 0, none⟩) 2 2) q [bcdX, abcX] hq (lit_txs (n := 2) hb rfl rfl (by omega)) (by rw [hk]; decide) (by decide)
  rw [hk, awS] at h
  exact h
theorem aw_nsat {r : Hp} {q : QuV} {b : Nat} (hq : QuR r q) (hk : q.key = .mk 3 [abcX, bcdX] []) (hb : r b = some (.cells [.string (bs [97, 98, 99])].toArray 9 (0, 0))) : Tri Tryd.prog r 9 [.agg [.int .i64 q.kind, q.gv, q.sv].toArray, .slice (some ⟨b, 0, none⟩) 1 1] [] fun w H => w = .bool false ∧ H = [] := by
  have h := sat_any r (.slice (some ⟨b, 0, none⟩) 1 1) q [abcX] hq (lit_txs (n := 1) hb rfl rfl (by omega)) (by rw [hk]; decide) (by decide)
  rw [hk, awN] at h
  exact h
set_option maxRecDepth 10000 in
set_option maxHeartbeats 4000000 in
theorem awake16_any (r : Hp) (hT : TabR r) : Tri Tryd.prog r 5 [] [] fun w H => w = .bool true ∧ H = [] := by
  refine Tri.free2 fun R HR => ?_
  refine fn_of_sw Tryd.func5 rfl _ rfl ?_; refine aen Tryd.ntmps5 ?_
  repeat' (first | ((with_reducible apply sw_freezeT (c := .seq (.region 2 _ _) _) (A := OwnQ q3)); (with_reducible (exact atk)); intro r3 g3 hr3 hg3 hA3; have hT3 := TabR.mono hT hr3; have hq3 := own_read hA3 hg3) | ((with_reducible apply sw_freezeT (c := .seq (.region 3 _ _) _) (A := OwnQ q5)); (with_reducible (exact atk)); intro r5 g5 hr5 hg5 hA5; have hT5 := TabR.mono hT3 hr5; have hq5 := own_read hA5 hg5; have hq35 := hq3.mono hr5; have ht3 := aw_text hT5 hq35 hk3; have ht5 := aw_text5 hT5 hq5 hk5; have hri := aw_right hT5 hq35 hk3; have hsa := fun r' (h : sub r5 r') b => aw_sat (hq35.mono h) hk3 (r := r') (b := b); have hsn := fun r' (h : sub r5 r') b => aw_nsat (hq35.mono h) hk3 (r := r') (b := b)) | ((with_reducible apply kx_bsL (d := some 28)); exact ty_el; exact ty_inf; rfl; rfl; rfl; (exact qcs); rfl; intro b28; (refine apk ?_)) | ((with_reducible apply kx_bsL (d := some 33)); exact ty_el; exact ty_inf; rfl; rfl; rfl; (exact qcs); rfl; intro b33; (refine apk ?_)) | (first | ((with_reducible apply kx_bs1); exact ty_el; exact ty_inf; rfl; rfl; rfl; intro bz; (refine apk ?_)) | ((with_reducible apply kx_bsN); exact ty_el; exact ty_inf; rfl; rfl; rfl; intro bz; (refine apk ?_))) | ((with_reducible apply kx_lend [(bz, .cells [.string (bs [98, 99, 100])].toArray 9 (0, 0))]); (exact atks); intro r' hl'; refine acl Tryd.func14 ?_; refine acr (gramOne_any _ (TabR.mono (by assumption) hl'.1) bz bcdX rfl (Lent.h1 hl')) ?_; rintro v' H' ⟨q1, hk1, ho1, rfl, rfl⟩; all_goals refine apm ?_) | ((with_reducible apply kx_lend [(bz, .cells [.string (bs [97, 98, 99])].toArray 9 (0, 0))]); (exact atks); intro r' hl'; refine acl Tryd.func14 ?_; refine acr (gramOne_any _ (TabR.mono (by assumption) hl'.1) bz abcX rfl (Lent.h1 hl')) ?_; rintro v' H' ⟨q2, hk2, ho2, rfl, rfl⟩; all_goals refine apm ?_) | ((with_reducible apply kx_bsL (d := some 7)); exact ty_el; exact ty_inf; rfl; rfl; rfl; (exact qcs); rfl; intro b7; (refine apk ?_)) | ((with_reducible apply kx_bsL (d := some 12)); exact ty_el; exact ty_inf; rfl; rfl; rfl; (exact qcs); rfl; intro b12; (refine apk ?_)) | ((with_reducible apply kx_lendC (A := OwnQ q1)); (with_reducible (exact atk)); intro r1 g1 hr1 hg1 hA1; (with_reducible apply kx_lendC (A := OwnQ q2)); (with_reducible (exact atk)); intro r2 g2 hr2 hg2 hA2; ((with_reducible apply kx_lend [(b7, .cells [.int .i64 q1.kind, q1.gv, q1.sv, .int .i64 q2.kind, q2.gv, q2.sv].toArray 30 (0, 0))]); (exact atks); intro r' hl'; refine acl Tryd.func10 ?_; refine acr (awAnd _ (hT.mono (Sx.sub.trans hr1 (Sx.sub.trans hr2 hl'.1))) b7 q1 q2 (Lent.h1 hl') ((own_read hA1 hg1).mono (Sx.sub.trans hr2 hl'.1)) ((own_read hA2 hg2).mono hl'.1) hk1 hk2) ?_; rintro v' H' ⟨q3, hk3, ho3, rfl, rfl⟩; all_goals refine apm ?_)) | ((with_reducible apply kx_lendC (A := OwnQ q2)); (with_reducible (exact atk)); intro r2 g2 hr2 hg2 hA2; ((with_reducible apply kx_lend [(b12, .cells [.int .i64 q2.kind, q2.gv, q2.sv, .int .i64 2, .slice none 0 0, .slice none 0 0].toArray 30 (0, 0))]); (exact atks); intro r' hl'; refine acl Tryd.func11 ?_; refine acr (awOr _ (TabR.mono (by assumption) (Sx.sub.trans hr2 hl'.1)) b12 q2 (Lent.h1 hl') ((own_read hA2 hg2).mono hl'.1) hk2) ?_; rintro v' H' ⟨q5, hk5, ho5, rfl, rfl⟩; all_goals refine apm ?_)) | (refine acl Tryd.func13 ?_; refine acr (ht3) ?_; rintro v' H' ⟨rfl, rfl⟩; all_goals refine apl ?_) | (refine acl Tryd.func13 ?_; refine acr (ht5) ?_; rintro v' H' ⟨rfl, rfl⟩; all_goals refine apl ?_) | (refine acl Tryd.func8 ?_; refine acr (hri) ?_; rintro v' H' ⟨rfl, rfl⟩; all_goals refine apl ?_) | ((with_reducible apply kx_bsL (d := some 28)); exact ty_el; exact ty_inf; rfl; rfl; rfl; (exact qcs); rfl; intro b28; (refine apk ?_)) | ((with_reducible apply kx_bsL (d := some 33)); exact ty_el; exact ty_inf; rfl; rfl; rfl; (exact qcs); rfl; intro b33; (refine apk ?_)) | ((with_reducible apply kx_lend [(b28, .cells [.string (bs [98, 99, 100]), .string (bs [97, 98, 99])].toArray 9 (0, 0))]); (exact atks); intro r' hl'; refine acl Tryd.func9 ?_; refine acr (hsa _ hl'.1 b28 (Lent.h1 hl')) ?_; rintro v' H' ⟨rfl, rfl⟩; all_goals refine apm ?_) | ((with_reducible apply kx_lend [(b33, .cells [.string (bs [97, 98, 99])].toArray 9 (0, 0))]); (exact atks); intro r' hl'; refine acl Tryd.func9 ?_; refine acr (hsn _ hl'.1 b33 (Lent.h1 hl')) ?_; rintro v' H' ⟨rfl, rfl⟩; all_goals refine apm ?_) | ((with_reducible apply kx_storeN); exact ty_size; rfl; rfl; rfl; (exact qsw); exact ho3; (exact qst); (refine apk ?_)) | ((with_reducible apply kx_storeN); exact ty_size; rfl; rfl; rfl; (exact qsw); exact ho5; (exact qst); (refine apk ?_)) | (exfalso; first | contradiction | omega) | refine aw0 ?_ | (refine ap2 ?_ ?_ <;> try intro h) | refine aw1 ?_ | (refine abx ?_; intro bb) | (refine abz ?_; intro bz) | (refine ahv ?_; intro v' hv') | (refine aac ?_; intro ac cc) | refine aw2 ?_ | (refine ap4 ?_ ?_ <;> try intro h) | apply True.intro)
  ((with_reducible apply fp_ret); exact res_1 rfl rfl)
  exact HR.out _ _ _ [] Takes.all ⟨rfl, rfl⟩
end Go.Proofs.YtgodcegaffgfjaaDoor
