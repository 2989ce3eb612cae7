
/- LangPaths: the walk, over contracts of strings' functions that are premises. -/
import Derived.Test.YtgodcegaffgfjaaGreatDoorLk
import Derived.Test.YtgodcegaffgfjaaGreatDoorUb
namespace Go.Proofs.YtgodcegaffgfjaaGreatDoor
open Go.RowKit Sx

namespace Sx
theorem pu_ixL {P : Program} {r : Hp} {t : List Value} {d : Option Tmp} {ty : TypeId} {pos : String} {af : Array Edge} {gd : Option (Nat × Bool)} {sz b off n cap : Nat} {T E : TypeId} {x y : Operand} {k : IntKind} {i : Int} {g : Bool} [TyE P T E] [hE : TyF P E g sz] (hx : evO t x = some (.slice (some ⟨b, off, none⟩) n cap)) (hy : evO t y = some (.int k i)) (h0 : 0 ≤ i ∧ i < n) :
    Pur P r t ⟨d, .indexAddr T x y, ty, pos, af, gd⟩ (.pointer (some ⟨b, off + i.toNat * sz, none⟩)) := by
  refine ⟨rfl, fun w _ => ?_⟩
  simp [execOp, Instr.indexAt, asIntOf, ev_of hx, ev_of hy, Sem.run_bind, Result.andThen, run_underlying (ty_slc (P := P) (T := T)), run_sizeOf (P := P) (T := E) hE.size, h0.1, h0.2, add_none]
end Sx
theorem tells_tri (r : Hp) (s : List UInt8) (hs : s.length ≤ 1000000) : Tri Tryz.prog r 4 [.string (bs s)] [] fun w H => w = .bool true ∧ H = [] :=
  tri_ext fun w => langTells_any (bs s) w (by rw [bs_size]; unfold maxLen; omega)
theorem take_eqX {α : Type} [Inhabited α] {l m : List α} {k : Nat} (h1 : k < l.length) (h2 : k < m.length) (ht : l.take k = m.take k) (h : l.getD k default = m.getD k default) : l.take (k + 1) = m.take (k + 1) := by
  rw [take_getD (d := default) h1, take_getD (d := default) h2, ht, h]
set_option maxRecDepth 10000 in
set_option maxHeartbeats 2000000 in
theorem sameTx_any (r : Hp) (v w : Value) (l m : List Tx) (hv : Els r 1 encTx v l) (hw : Els r 1 encTx w m) : Tri Tryz.prog r 9 [v, w] [] fun u H => u = .bool (decide (l = m)) ∧ H = [] := by
  refine Tri.free2 fun R HR => ?_
  have hlm := maxI hv.2.2.1
  by_cases hl : l.length = m.length
  · refine fn_of_sw Tryz.func9 rfl _ rfl ?_; refine aen Tryz.ntmps9 ?_
    repeat' (first | (exfalso; first | contradiction | omega) | refine aw0 ?_ | (refine ap2 ?_ ?_ <;> try intro h) | refine aw1 ?_ | (refine abx ?_; intro bb) | (refine abz ?_; intro bz) | (refine ahv ?_; intro v' hv') | (refine aac ?_; intro ac cc) | refine aw2 ?_ | (refine ap4 ?_ ?_ <;> try intro h) | apply True.intro)
    refine sw_loop (fun gm t H' => ∃ k : Nat, gm = l.length + 1 - k ∧ (k ≤ l.length) ∧ (l.take k = m.take k) ∧ (∃ G, Takes [] H' G) ∧ Sls t 26 [(0, v), (1, w), (5, .int .i64 k)]) _ ⟨0, rfl, Nat.zero_le _, rfl, ⟨[], by (exact atks)⟩, asls⟩ ?_
    rintro gm t H' ⟨k, rfl, hk, ht, ⟨G, hp⟩, hs'⟩
    revert t; refine sls_all ?_; iterate 23 intro uu'
    refine sw_takeG hp ?_; clear hp
    by_cases hlt : k < l.length
    · by_cases he : l.getD k default = m.getD k default
      · repeat' (first | (first | ((with_reducible apply sw_draw (id := 6) 9 [(0, true), (1, true), (2, true), (3, true), (4, true), (5, true), (6, true), (7, true), (8, true)] [] []); kernel_rfl; (exact atks); kernel_rfl; intro r' hl')) | (exfalso; first | contradiction | omega) | refine aw0 ?_ | (refine ap2 ?_ ?_ <;> try intro h) | refine aw1 ?_ | (refine abx ?_; intro bb) | (refine abz ?_; intro bz) | (refine ahv ?_; intro v' hv') | (refine aac ?_; intro ac cc) | refine aw2 ?_ | (refine ap4 ?_ ?_ <;> try intro h) | apply True.intro)
        exact ⟨_, by omega, k + 1, rfl, by omega, take_eqX hlt (by omega) ht he, ⟨[], by (exact atks)⟩, asls⟩
      · repeat' (first | (first | ((with_reducible apply sw_draw (id := 6) 9 [(0, true), (1, true), (2, true), (3, true), (4, true), (5, true), (6, true), (7, true), (8, true)] [] []); kernel_rfl; (exact atks); kernel_rfl; intro r' hl')) | (exfalso; first | contradiction | omega) | refine aw0 ?_ | (refine ap2 ?_ ?_ <;> try intro h) | refine aw1 ?_ | (refine abx ?_; intro bb) | (refine abz ?_; intro bz) | (refine ahv ?_; intro v' hv') | (refine aac ?_; intro ac cc) | refine aw2 ?_ | (refine ap4 ?_ ?_ <;> try intro h) | apply True.intro)
        ((with_reducible apply fp_ret); exact res_1 rfl rfl)
        exact HR.out _ _ _ [] (by (exact atks)) ⟨by rw [decide_eq_false]; exact fun e => he (by rw [e]), rfl⟩
    · obtain rfl : k = l.length := by omega
      rw [List.take_length, hl, List.take_length] at ht
      repeat' (first | (exfalso; first | contradiction | omega) | refine aw0 ?_ | (refine ap2 ?_ ?_ <;> try intro h) | refine aw1 ?_ | (refine abx ?_; intro bb) | (refine abz ?_; intro bz) | (refine ahv ?_; intro v' hv') | (refine aac ?_; intro ac cc) | refine aw2 ?_ | (refine ap4 ?_ ?_ <;> try intro h) | apply True.intro)
      ((with_reducible apply fp_ret); exact res_1 rfl rfl)
      exact HR.out _ _ _ [] (by (exact atks)) ⟨by rw [decide_eq_true ht], rfl⟩
  · refine fn_of_sw Tryz.func9 rfl _ rfl ?_; refine aen Tryz.ntmps9 ?_
    repeat' (first | (exfalso; first | contradiction | omega) | refine aw0 ?_ | (refine ap2 ?_ ?_ <;> try intro h) | refine aw1 ?_ | (refine abx ?_; intro bb) | (refine abz ?_; intro bz) | (refine ahv ?_; intro v' hv') | (refine aac ?_; intro ac cc) | refine aw2 ?_ | (refine ap4 ?_ ?_ <;> try intro h) | apply True.intro)
    ((with_reducible apply fp_ret); exact res_1 rfl rfl)
    exact HR.out _ _ _ [] (by (exact atks)) ⟨by rw [decide_eq_false]; exact fun e => hl (by rw [e]), rfl⟩
def extsL : Tx := [99, 32, 104, 32, 99, 99, 32, 99, 112, 112, 32, 104, 112, 112, 32, 99, 115, 115, 32, 103, 111, 32, 104, 116, 109, 108, 32, 106, 97, 118, 97, 32, 106, 115, 32, 109, 106, 115, 32, 106] ++ [115, 111, 110, 32, 109, 100, 32, 112, 121, 32, 114, 98, 32, 114, 115, 32, 115, 104, 32, 115, 113, 108, 32, 116, 120, 116, 32, 116, 115, 32, 121, 97, 109, 108, 32, 121, 109, 108, 32, 120]
theorem getD_memQ {α : Type} [Inhabited α] {l : List α} {k : Nat} (h : k < l.length) : l.getD k default ∈ l := by
  rw [List.getD_eq_getElem?_getD, List.getElem?_eq_getElem h]
  exact List.getElem_mem h
def RepT : Prop := ∀ (r : Hp) (s : Tx) (n : Nat) (ni : Int), ni = n → s.length ≤ 2 → 2 ≤ n → n ≤ 300 → s ≠ [] → Tri Tryz.prog r 5 [.string (bs s), .int .i64 ni] [] fun w H => (∃ u : Tx, w = .string (bs u) ∧ u.length ≤ 1000) ∧ H = []
def SplitT : Prop := ∀ r : Hp, Tri Tryz.prog r 6 [.string (bs extsL), .string (bs [32])] [] fun w H => ∃ (a : Option Addr) (c : Nat) (ps : List Tx), (ps.length ≤ 100 ∧ ∀ p ∈ ps, 1 ≤ p.length ∧ p.length ≤ 100 ∧ ∀ b ∈ p, b.toNat < 128) ∧ w = .slice a ps.length c ∧ H = [RowC 9 1 (.slice a ps.length c) ps.length (ps.flatMap encTx)]
def UpperT : Prop := ∀ (r : Hp) (p : Tx), p.length ≤ 100 → (∀ b ∈ p, b.toNat < 128) → Tri Tryz.prog r 7 [.string (bs p)] [] fun w H => (∃ u : Tx, w = .string (bs u) ∧ u.length ≤ 1000) ∧ H = []
abbrev rowA (v : Value) : Ch := RowC 9 1 v 17 (allL.flatMap encTx)
theorem rowA_els {v : Value} {g r : Hp} (h : rowA v g) (hs : sub g r) : Els r 1 encTx v allL := ⟨fun _ => rfl, h.sl hs⟩
theorem encTx_mapX (l : List Tx) : l.map Go.Proofs.encStr = l.flatMap encTx := by
  induction l with
  | nil => rfl
  | cons x l ih => rw [List.map_cons, ih]; rfl
theorem hall (r : Hp) : Tri Tryz.prog r 8 [] [] fun w H => ∃ a c, w = .slice a 17 c ∧ H = [rowA w] := by
  have h := all_tri r
  rw [encTx_mapX] at h
  exact h
def RefAllT : Prop := ∀ r : Hp, Tri Tryz.prog r 10 [] [] fun w H => ∃ a c, w = .slice a 17 c ∧ H = [rowA w]
def ApartTx : Prop := ∀ (r : Hp) (b : Nat) (a1 : Option Addr) (c1 : Nat) (a2 : Option Addr) (c2 : Nat), r b = some (.cells [.slice a1 17 c1, .slice a2 17 c2].toArray 24 (0, 0)) → Tri Tryz.prog r 11 [.slice (some ⟨b, 0, none⟩) 2 2] [rowA (.slice a1 17 c1), rowA (.slice a2 17 c2)] fun w H => w = .bool true ∧ H = []
set_option maxRecDepth 10000 in
set_option maxHeartbeats 16000000 in
theorem paths_of (r : Hp) (hrep : RepT) (hspl : SplitT) (hupp : UpperT) (href : RefAllT) (hapt : ApartTx) : Tri Tryz.prog r 3 [] [] fun w H => w = .bool true ∧ H = [] := by
  refine Tri.free2 fun R HR => ?_
  refine fn_of_sw Tryz.func3 rfl _ rfl ?_; refine aen Tryz.ntmps3 ?_
  repeat' (first | refine aw0m ?_ | (refine ap2 ?_ ?_ <;> try intro h) | refine aw1m ?_ | (refine abx ?_; intro bb) | (refine abz ?_; intro bz) | (refine ahv ?_; intro v' hv') | (refine aac ?_; intro ac cc) | refine aw2 ?_ | (refine ap4 ?_ ?_ <;> try intro h) | apply True.intro)
  refine sw_loop (fun gm t H' => ∃ k : Nat, gm = 257 - k ∧ (k ≤ 256) ∧ (∃ G, Takes [] H' G) ∧ Sls t 171 [(1, .int .i64 k)]) _ ⟨0, rfl, by omega, ⟨_, atks⟩, asls⟩ ?_
  rintro gm t H' ⟨k, rfl, hk, ⟨G, hp⟩, hs'⟩
  revert t; refine sls_all ?_; iterate 170 intro uu'
  refine sw_takeG hp ?_; clear hp
  by_cases hlt : k < 256
  · repeat' (first | (first | ((with_reducible apply kx_bs1); exact ty_el; exact ty_inf; rfl; rfl; rfl; intro bz; (refine apk ?_)) | ((with_reducible apply kx_bsN); exact ty_el; exact ty_inf; rfl; rfl; rfl; intro bz; (refine apk ?_))) | (refine acl Tryz.func4 ?_; refine acr (tells_tri _ _ (by first | omega | (simp only [List.length_append, List.length_cons, List.length_nil]; omega))) ?_; rintro v' H' ⟨rfl, rfl⟩; all_goals refine apl ?_) | ((with_reducible apply swo_pur); (with_reducible apply pu_cat); rfl; rfl; (simp only [List.length_append, List.length_cons, List.length_nil]; omega); (refine apk ?_)) | (exfalso; first | contradiction | omega) | refine aw0 ?_ | (refine ap2 ?_ ?_ <;> try intro h) | refine aw1 ?_ | (refine abx ?_; intro bb) | (refine abz ?_; intro bz) | (refine ahv ?_; intro v' hv') | (refine aac ?_; intro ac cc) | refine aw2 ?_ | (refine ap4 ?_ ?_ <;> try intro h) | apply True.intro)
    exact ⟨_, by omega, k + 1, rfl, by omega, ⟨_, atks⟩, asls⟩
  · repeat' (first | (exfalso; first | contradiction | omega) | refine aw0 ?_ | (refine ap2 ?_ ?_ <;> try intro h) | refine aw1 ?_ | (refine abx ?_; intro bb) | (refine abz ?_; intro bz) | (refine ahv ?_; intro v' hv') | (refine aac ?_; intro ac cc) | refine aw2 ?_ | (refine ap4 ?_ ?_ <;> try intro h) | apply True.intro)
    refine sw_loop (fun gm t H' => ∃ n : Nat, gm = 1025 - n ∧ (n ≤ 1024) ∧ (∃ G, Takes [] H' G) ∧ Sls t 171 [(3, .int .i64 n)]) _ ⟨0, rfl, by omega, ⟨_, atks⟩, asls⟩ ?_
    rintro gm t H' ⟨n, rfl, hn, ⟨G, hp⟩, hs'⟩
    revert t; refine sls_all ?_; iterate 170 intro uu'
    refine sw_takeG hp ?_; clear hp
    by_cases hlt : n < 1024
    · repeat' (first | (exfalso; first | contradiction | omega) | refine aw0 ?_ | (refine ap2 ?_ ?_ <;> try intro h) | refine aw1 ?_ | (refine abx ?_; intro bb) | (refine abz ?_; intro bz) | (refine ahv ?_; intro v' hv') | (refine aac ?_; intro ac cc) | refine aw2 ?_ | (refine ap4 ?_ ?_ <;> try intro h) | apply True.intro)
      refine sw_loop (fun gm t H' => ∃ (k : Nat) (s : Tx), gm = k + 1 ∧ (s.length + 2 * k ≤ 2 * n) ∧ (∃ G, Takes [] H' G) ∧ Sls t 171 [(3, .int .i64 n), (4, .string (bs s)), (5, .int .i64 k)]) _ ⟨n, [], rfl, by simp, ⟨_, atks⟩, asls⟩ ?_
      rintro gm t H' ⟨k, s, rfl, hs, ⟨G, hp⟩, hs'⟩
      revert t; refine sls_all ?_; iterate 168 intro uu'
      refine sw_takeG hp ?_; clear hp
      by_cases hk : 0 < k
      · have hm4 : (k : Int) % 4 = 0 ∨ (k : Int) % 4 = 1 ∨ (k : Int) % 4 = 2 ∨ (k : Int) % 4 = 3 := by omega
        rcases hm4 with hm4 | hm4 | hm4 | hm4
        all_goals
          repeat' (first | (rw [hm4]) | ((with_reducible apply kx_bsL (d := some 58)); exact ty_el; exact ty_inf; rfl; rfl; rfl; (exact qcs); rfl; intro b58; (refine apk ?_)) | (first | ((with_reducible apply pi_pur); rfl; (exact qwt); (with_reducible apply pu_ixL (n := 4)); rfl; rfl; (omega); (refine apk ?_)) | ((with_reducible apply swo_pur); (with_reducible apply pu_ixL (n := 4)); rfl; rfl; (omega); (refine apk ?_))) | ((with_reducible apply swo_pur); (with_reducible apply pu_cat); rfl; rfl; (simp only [List.length_cons, List.length_nil]; omega); (refine apk ?_)) | (exfalso; first | contradiction | omega) | refine aw0 ?_ | (refine ap2 ?_ ?_ <;> try intro h) | refine aw1 ?_ | (refine abx ?_; intro bb) | (refine abz ?_; intro bz) | (refine ahv ?_; intro v' hv') | (refine aac ?_; intro ac cc) | refine aw2 ?_ | (refine ap4 ?_ ?_ <;> try intro h) | apply True.intro)
        · exact ⟨_, by omega, k / 4, s ++ [47], rfl, by simp only [List.length_append, List.length_cons, List.length_nil]; omega, ⟨_, atks⟩, asls⟩
        · exact ⟨_, by omega, k / 4, s ++ [46], rfl, by simp only [List.length_append, List.length_cons, List.length_nil]; omega, ⟨_, atks⟩, asls⟩
        · exact ⟨_, by omega, k / 4, s ++ [99], rfl, by simp only [List.length_append, List.length_cons, List.length_nil]; omega, ⟨_, atks⟩, asls⟩
        · exact ⟨_, by omega, k / 4, s ++ [103, 111], rfl, by simp only [List.length_append, List.length_cons, List.length_nil]; omega, ⟨_, atks⟩, asls⟩
      · repeat' (first | (refine acl Tryz.func4 ?_; refine acr (tells_tri _ _ (by first | omega | (simp only [List.length_append, List.length_cons, List.length_nil]; omega))) ?_; rintro v' H' ⟨rfl, rfl⟩; all_goals refine apl ?_) | ((with_reducible apply swo_pur); (with_reducible apply pu_cat); rfl; rfl; (simp only [List.length_cons, List.length_nil]; omega); (refine apk ?_)) | (exfalso; first | contradiction | omega) | refine aw0 ?_ | (refine ap2 ?_ ?_ <;> try intro h) | refine aw1 ?_ | (refine abx ?_; intro bb) | (refine abz ?_; intro bz) | (refine ahv ?_; intro v' hv') | (refine aac ?_; intro ac cc) | refine aw2 ?_ | (refine ap4 ?_ ?_ <;> try intro h) | apply True.intro)
        exact ⟨_, by omega, n + 1, rfl, by omega, ⟨_, atks⟩, asls⟩
    · repeat' (first | (exfalso; first | contradiction | omega) | refine aw0 ?_ | (refine ap2 ?_ ?_ <;> try intro h) | refine aw1 ?_ | (refine abx ?_; intro bb) | (refine abz ?_; intro bz) | (refine ahv ?_; intro v' hv') | (refine aac ?_; intro ac cc) | refine aw2 ?_ | (refine ap4 ?_ ?_ <;> try intro h) | apply True.intro)
      refine sw_loop (fun gm t H' => ∃ n : Nat, gm = 204 - n ∧ (198 ≤ n ∧ n ≤ 203) ∧ (∃ G, Takes [] H' G) ∧ Sls t 171 [(6, .int .i64 n)]) _ ⟨198, rfl, by omega, ⟨_, atks⟩, asls⟩ ?_
      rintro gm t H' ⟨n, rfl, hn2, ⟨G, hp⟩, hs'⟩
      revert t; refine sls_all ?_; iterate 170 intro uu'
      refine sw_takeG hp ?_; clear hp
      by_cases hlt2 : n < 203
      · have hr1 := hrep r [97] n n rfl (by simp) (by omega) (by omega) (by simp)
        have hr2 := hrep r [97, 47] (n / 2) ((n : Int) / 2) (by omega) (by simp) (by omega) (by omega) (by simp)
        repeat' (first | (refine acl Tryz.func5 ?_; refine acr (hr1) ?_; rintro v' H' ⟨⟨u1, rfl, hu1⟩, rfl⟩; all_goals refine apl ?_) | (refine acl Tryz.func5 ?_; refine acr (hr2) ?_; rintro v' H' ⟨⟨u2, rfl, hu2⟩, rfl⟩; all_goals refine apl ?_) | (refine acl Tryz.func4 ?_; refine acr (tells_tri _ _ (by first | omega | (simp only [List.length_append, List.length_cons, List.length_nil]; omega))) ?_; rintro v' H' ⟨rfl, rfl⟩; all_goals refine apl ?_) | ((with_reducible apply swo_pur); (with_reducible apply pu_cat); rfl; rfl; (simp only [List.length_cons, List.length_nil]; omega); (refine apk ?_)) | (exfalso; first | contradiction | omega) | refine aw0 ?_ | (refine ap2 ?_ ?_ <;> try intro h) | refine aw1 ?_ | (refine abx ?_; intro bb) | (refine abz ?_; intro bz) | (refine ahv ?_; intro v' hv') | (refine aac ?_; intro ac cc) | refine aw2 ?_ | (refine ap4 ?_ ?_ <;> try intro h) | apply True.intro)
        exact ⟨_, by omega, n + 1, rfl, by omega, ⟨_, atks⟩, asls⟩
      · repeat' (first | (refine acl Tryz.func6 ?_; refine acr (hspl r) ?_; rintro v' H' ⟨a, c, ps, ⟨hp1, hp2⟩, rfl, rfl⟩; all_goals refine apl ?_) | (exfalso; first | contradiction | omega) | refine aw0 ?_ | (refine ap2 ?_ ?_ <;> try intro h) | refine aw1 ?_ | (refine abx ?_; intro bb) | (refine abz ?_; intro bz) | (refine ahv ?_; intro v' hv') | (refine aac ?_; intro ac cc) | refine aw2 ?_ | (refine ap4 ?_ ?_ <;> try intro h) | apply True.intro)
        refine sw_freezeT (A := RowC 9 1 (.slice a ps.length c) ps.length (ps.flatMap encTx)) (by (exact atk)) fun r1 g1 hr1 hg1 hA1 => ?_
        have hE : Els r1 1 encTx (.slice a ps.length c) ps := ⟨fun _ => rfl, hA1.sl hg1⟩
        clear hA1
        refine sw_loop (fun gm t H' => ∃ i : Nat, gm = ps.length + 1 - i ∧ (i ≤ ps.length) ∧ (∃ G, Takes [] H' G) ∧ Sls t 171 [(7, .slice a ps.length c), (8, .int .i64 i)]) _ ⟨0, rfl, by omega, ⟨_, atks⟩, asls⟩ ?_
        rintro gm t H' ⟨i, rfl, hi, ⟨G, hp⟩, hs'⟩
        revert t; refine sls_all ?_; iterate 169 intro uu'
        refine sw_takeG hp ?_; clear hp
        by_cases hlt3 : i < ps.length
        · obtain ⟨p, hx⟩ : ∃ p, ps.getD i default = p := ⟨_, rfl⟩
          obtain ⟨hpl, hpm, hpa⟩ := hp2 p (hx ▸ getD_memQ hlt3)
          have hup := hupp r1 p hpm hpa
          obtain ⟨p1, hp1⟩ : ∃ p1, (List.drop (Int.toNat 1) p).take ((p.length : Int).toNat - Int.toNat 1) = p1 := ⟨_, rfl⟩
          have hp1l : p1.length ≤ 100 := by rw [← hp1, List.length_take, List.length_drop]; omega
          repeat' (first | (rw [hx]) | (rw [hp1]) | (refine acl Tryz.func7 ?_; refine acr (hup) ?_; rintro v' H' ⟨⟨u1, rfl, hu1⟩, rfl⟩; all_goals refine apl ?_) | (refine acl Tryz.func4 ?_; refine acr (tells_tri _ _ (by first | omega | (simp only [List.length_append, List.length_cons, List.length_nil]; omega))) ?_; rintro v' H' ⟨rfl, rfl⟩; all_goals refine apl ?_) | ((with_reducible apply swo_pur); (with_reducible apply pu_cat); rfl; rfl; (simp only [List.length_append, List.length_cons, List.length_nil]; omega); (refine apk ?_)) | (exfalso; first | contradiction | omega) | refine aw0 ?_ | (refine ap2 ?_ ?_ <;> try intro h) | refine aw1 ?_ | (refine abx ?_; intro bb) | (refine abz ?_; intro bz) | (refine ahv ?_; intro v' hv') | (refine aac ?_; intro ac cc) | refine aw2 ?_ | (refine ap4 ?_ ?_ <;> try intro h) | apply True.intro)
          exact ⟨_, by omega, i + 1, rfl, by omega, ⟨_, atks⟩, asls⟩
        · repeat' (first | (exfalso; first | contradiction | omega) | refine aw0 ?_ | (refine ap2 ?_ ?_ <;> try intro h) | refine aw1 ?_ | (refine abx ?_; intro bb) | (refine abz ?_; intro bz) | (refine ahv ?_; intro v' hv') | (refine aac ?_; intro ac cc) | refine aw2 ?_ | (refine ap4 ?_ ?_ <;> try intro h) | apply True.intro)
          (refine acl Tryz.func8 ?_; refine acr (hall r) ?_; rintro v' H' ⟨a1, c1, rfl, rfl⟩; all_goals refine apl ?_)
          repeat' (first | refine aw0m ?_ | (refine ap2 ?_ ?_ <;> try intro h) | refine aw1m ?_ | (refine abx ?_; intro bb) | (refine abz ?_; intro bz) | (refine ahv ?_; intro v' hv') | (refine aac ?_; intro ac cc) | refine aw2 ?_ | (refine ap4 ?_ ?_ <;> try intro h) | apply True.intro)
          (refine acl Tryz.func8 ?_; refine acr (hall r) ?_; rintro v' H' ⟨a2, c2, rfl, rfl⟩; all_goals refine apl ?_)
          repeat' (first | refine aw0m ?_ | (refine ap2 ?_ ?_ <;> try intro h) | refine aw1m ?_ | (refine abx ?_; intro bb) | (refine abz ?_; intro bz) | (refine ahv ?_; intro v' hv') | (refine aac ?_; intro ac cc) | refine aw2 ?_ | (refine ap4 ?_ ?_ <;> try intro h) | apply True.intro)
          (refine acl Tryz.func10 ?_; refine acr (href r) ?_; rintro v' H' ⟨a3, c3, rfl, rfl⟩; all_goals refine apl ?_)
          have hsm := fun r' v w (h1 : Els r' 1 encTx v allL) (h2 : Els r' 1 encTx w allL) => sameTx_any r' v w allL allL h1 h2
          rw [decide_eq_true (rfl : allL = allL)] at hsm
          repeat' (first | ((with_reducible apply kx_bsL (d := some 160)); exact ty_el; exact ty_inf; rfl; rfl; rfl; (exact qcs); rfl; intro b160; (refine apk ?_)) | ((with_reducible apply kx_lendC (A := rowA (.slice a1 17 c1))); (with_reducible (exact atk)); intro r4 g4 hr4 hg4 hA4; (with_reducible apply kx_lendC (A := rowA (.slice a3 17 c3))); (with_reducible (exact atk)); intro r5 g5 hr5 hg5 hA5; (refine acl Tryz.func9 ?_; refine acr (hsm r5 _ _ (rowA_els hA4 (Sx.sub.trans hg4 hr5)) (rowA_els hA5 hg5)) ?_; rintro v' H' ⟨rfl, rfl⟩; all_goals refine apl ?_)) | ((with_reducible apply kx_lend [(b160, .cells [.slice a1 17 c1, .slice a2 17 c2].toArray 24 (0, 0))]); (exact atks); intro r' hl'; refine acl Tryz.func11 ?_; refine acr (hapt _ b160 a1 c1 a2 c2 (Lent.h1 hl')) ?_; rintro v' H' ⟨rfl, rfl⟩; all_goals refine apm ?_) | (exfalso; first | contradiction | omega) | refine aw0 ?_ | (refine ap2 ?_ ?_ <;> try intro h) | refine aw1 ?_ | (refine abx ?_; intro bb) | (refine abz ?_; intro bz) | (refine ahv ?_; intro v' hv') | (refine aac ?_; intro ac cc) | refine aw2 ?_ | (refine ap4 ?_ ?_ <;> try intro h) | apply True.intro)
          (refine acl Tryz.func8 ?_; refine acr (hall r) ?_; rintro v' H' ⟨a4, c4, rfl, rfl⟩; all_goals refine apl ?_)
          repeat' (first | refine aw0m ?_ | (refine ap2 ?_ ?_ <;> try intro h) | refine aw1m ?_ | (refine abx ?_; intro bb) | (refine abz ?_; intro bz) | (refine ahv ?_; intro v' hv') | (refine aac ?_; intro ac cc) | refine aw2 ?_ | (refine ap4 ?_ ?_ <;> try intro h) | apply True.intro)
          (refine acl Tryz.func10 ?_; refine acr (href r) ?_; rintro v' H' ⟨a5, c5, rfl, rfl⟩; all_goals refine apl ?_)
          repeat' (first | ((with_reducible apply kx_lendC (A := rowA (.slice a4 17 c4))); (with_reducible (exact atk)); intro r4 g4 hr4 hg4 hA4; (with_reducible apply kx_lendC (A := rowA (.slice a5 17 c5))); (with_reducible (exact atk)); intro r5 g5 hr5 hg5 hA5; (refine acl Tryz.func9 ?_; refine acr (hsm r5 _ _ (rowA_els hA4 (Sx.sub.trans hg4 hr5)) (rowA_els hA5 hg5)) ?_; rintro v' H' ⟨rfl, rfl⟩; all_goals refine apl ?_)) | (refine acl Tryz.func12 ?_; refine acr (awake06_tri _) ?_; rintro v' H' ⟨rfl, rfl⟩; all_goals refine apl ?_) | (exfalso; first | contradiction | omega) | refine aw0 ?_ | (refine ap2 ?_ ?_ <;> try intro h) | refine aw1 ?_ | (refine abx ?_; intro bb) | (refine abz ?_; intro bz) | (refine ahv ?_; intro v' hv') | (refine aac ?_; intro ac cc) | refine aw2 ?_ | (refine ap4 ?_ ?_ <;> try intro h) | apply True.intro)
          ((with_reducible apply fp_ret); exact res_1 rfl rfl)
          exact HR.out _ _ _ [] Takes.all ⟨rfl, rfl⟩
end Go.Proofs.YtgodcegaffgfjaaGreatDoor
