/- post.Get: its contract. -/
import Derived.Test.YtkbajhiahpkgiaaRf
namespace Go.Proofs.Ytkbajhiahpkgiaa
open Go.RowKit Sx

/-- A row of postings and their rows. -/
def PZC (E T : TypeId) (v : Value) (Z : List PZ) : Ch := all (RowC E 2 v Z.length (Z.flatMap encZ) :: rowsC T Z)
def pvZ (z : PZ) : PostV := ⟨z.1.1, z.2, z.1.2⟩
theorem rows_els {T : TypeId} {r : Hp} : ∀ {Z : List PZ} {g : Hp}, all (rowsC T Z) g → sub g r → ∀ z ∈ Z, Els r 2 encPl z.2 z.1.2
  | [], _, _, _, _, hz => by cases hz
  | y :: Z, g, h, hs, z, hz => by
    obtain ⟨g1, g2, dd, rfl, h1, h2⟩ := h
    rcases List.mem_cons.1 hz with rfl | hz
    · exact ⟨fun _ => rfl, h1.sl (fun b o e => hs b o (un_left e))⟩
    · exact rows_els h2 (fun b o e => hs b o (un_right dd e)) z hz
theorem pvZ_un (Z : List PZ) : (Z.map pvZ).map unP = Z.map (·.1) := by rw [List.map_map]; rfl
theorem pzc_posts {E T : TypeId} {r g : Hp} {a : Option Addr} {c k : Nat} {Z : List PZ} (h : PZC E T (.slice a k c) Z g) (hs : sub g r) (_hk : Z.length = k) : (Z.map pvZ).map unP = Z.map (·.1) ∧ Posts r (.slice a k c) (Z.map pvZ) := by
  obtain ⟨g1, g2, dd, rfl, h1, h2⟩ := h
  refine ⟨pvZ_un Z, ⟨fun _ => rfl, ?_⟩, fun x hx => ?_⟩
  · have h3 := h1.sl (fun b o e => hs b o (un_left e))
    rw [List.length_map, show (Z.map pvZ).flatMap encPo = Z.flatMap encZ by rw [List.flatMap_map]; rfl]
    exact h3
  · obtain ⟨z, hz, rfl⟩ := List.mem_map.1 hx
    exact rows_els h2 (fun b o e => hs b o (un_right dd e)) z hz
theorem rows_snoc {T : TypeId} {Z : List PZ} {z : PZ} (h : Hp) (e : all [all (rowsC T Z), RowC T 2 z.2 z.1.2.length (z.1.2.flatMap encPl)] h) : all (rowsC T (Z ++ [z])) h := by
  have h1 := all_perm (List.Perm.swap _ _ _) e
  have h2 := (all_fold (L1 := [_]) (L2 := rowsC T Z)).1 h1
  refine all_perm ?_ h2
  unfold rowsC
  rw [List.map_append]
  exact List.perm_append_comm (l₁ := [_])
set_option maxRecDepth 10000 in
set_option maxHeartbeats 4000000 in
theorem get_post_any (r : Hp) (v : Value) (b : List UInt8) (hv : U8S r v b) (hb : b.length ≤ 200000) : Tri Try.prog r 14 [v] [] fun w H => ∃ a c, w = .tuple #[.slice a ((getP b).getD []).length c, .int .i64 (if (getP b).isSome then 0 else 9)] ∧ H = [PostC 42 44 (.slice a ((getP b).getD []).length c) ((getP b).getD [])] := by
  refine Tri.free2 fun R HR => ?_
  obtain ⟨N, s0, hNs⟩ : ∃ N s0, numR b.length (some b) = (N, s0) := ⟨_, _, rfl⟩
  have hN : N ≤ b.length := by have h := numR_most b.length (some b); rw [hNs] at h; exact h
  have hnum := fun r g v (h : U8S r v b) => num_any r g v false (some b) b.length (.inl ⟨rfl, b, rfl, h⟩)
  have hgp : getP b = if (getsR b.length N s0).2 = some [] ∧ (getsR b.length N s0).1.length = N ∧ postsOk [] (getsR b.length N s0).1 = true then some (getsR b.length N s0).1 else none := by
    unfold getP; rw [hNs]
  rw [hNs] at hnum
  dsimp only at hnum
  clear hNs
  refine fn_of_sw Try.func14 rfl _ rfl ?_; simp only [Try.ntmps14, List.length_cons, List.length_nil, Nat.reduceAdd, Nat.reduceSub, List.replicate_succ, List.replicate_zero, List.nil_append, List.cons_append]
  refine sw_put (A := PostC 42 44 (.slice none 0 0) []) ⟨[], rfl, all_one.2 (RowC.nil _ _)⟩ ?_
  refine sw_put (A := RowC 42 2 (.slice none 0 0) 0 []) (RowC.nil _ _) ?_
  refine sw_put (A := all (rowsC 44 [])) rfl ?_
  repeat' (first | ((with_reducible apply kx_call (f := 36) (cap := [])); exact goesOf Try.func36 (by kernel_rfl) rfl; rfl; rfl; exact (read_any r v b hv (by omega)); (exact atks); rintro v' H' ⟨g, v0, rfl, rfl⟩; all_goals ((try simp only [List.cons_append, List.nil_append]); (refine apk ?_))) | ((with_reducible apply sw_freezeT (A := U8R v0 b)); (with_reducible (exact atk)); intro r1 g1 hr1 hg1 hA1; have hv1 := hv.mono hr1) | ((with_reducible apply kx_call (f := 37) (cap := [])); exact goesOf Try.func37 (by kernel_rfl) rfl; rfl; rfl; exact (hnum r1 g v0 (hA1.sl hg1)); (exact atks); rintro v' H' ⟨rfl, v1, b1, hv1', rfl⟩; all_goals ((try simp only [List.cons_append, List.nil_append]); (refine apk ?_))) | (refine aw0 ?_) | (refine ap2 ?_ ?_ <;> first | exact True.intro | intro h) | (refine aw1 ?_) | (refine abx ?_; intro bb) | (refine abz ?_; intro bz) | (refine ahv ?_; intro v' hv') | (refine aac ?_; intro ac cc) | (refine aw2 ?_) | (refine ap4 ?_ ?_ <;> first | exact True.intro | intro h) | (with_reducible refine tr_two ?_ ?_))
  refine sw_loop (fun gm t H' => ∃ (k : Nat) (Z : List PZ) (s : Stt) (v2 : Value) (b2 : Bool) (a : Option Addr) (c : Nat), gm = N + 1 - k ∧ (k ≤ N) ∧ (Z.length = k) ∧ (getsR b.length N s0 = (Z.map (·.1) ++ (getsR b.length (N - k) s).1, (getsR b.length (N - k) s).2)) ∧ (RdOk r1 v2 b2 s) ∧ (∃ G, Takes [pt g (rdr v2 b2), RowC 42 2 (.slice a k c) k (Z.flatMap encZ), all (rowsC 44 Z), PostC 42 44 (.slice none 0 0) []] H' G) ∧ (t.length = 52 ∧ t[0]? = some (v) ∧ t[2]? = some (.slice a k c) ∧ t[4]? = some (.pointer (some ⟨g, 0, none⟩)) ∧ t[5]? = some (.int .i64 N) ∧ t[14]? = some (.int .i64 N) ∧ t[15]? = some (.int .i64 k))) _ ⟨0, [], s0, v1, b1, none, 0, rfl, Nat.zero_le _, rfl, rfl, hv1', ⟨_, by (exact atks)⟩, rfl, (by first | rfl | exact congrArg some (congrArg (Value.int _) (by omega)) | exact congrArg some (congrArg (fun n => Value.slice _ n _) (by omega)) | (congr 2 <;> omega)), (by first | rfl | exact congrArg some (congrArg (Value.int _) (by omega)) | exact congrArg some (congrArg (fun n => Value.slice _ n _) (by omega)) | (congr 2 <;> omega)), (by first | rfl | exact congrArg some (congrArg (Value.int _) (by omega)) | exact congrArg some (congrArg (fun n => Value.slice _ n _) (by omega)) | (congr 2 <;> omega)), (by first | rfl | exact congrArg some (congrArg (Value.int _) (by omega)) | exact congrArg some (congrArg (fun n => Value.slice _ n _) (by omega)) | (congr 2 <;> omega)), (by first | rfl | exact congrArg some (congrArg (Value.int _) (by omega)) | exact congrArg some (congrArg (fun n => Value.slice _ n _) (by omega)) | (congr 2 <;> omega)), (by first | rfl | exact congrArg some (congrArg (Value.int _) (by omega)) | exact congrArg some (congrArg (fun n => Value.slice _ n _) (by omega)) | (congr 2 <;> omega))⟩ ?_
  rintro gm t H' ⟨k, Z, s, v2, b2, a, c, rfl, hk, hZ, hg, hv2, ⟨G, hp⟩, hlen, e0, e2, e4, e5, e14, e15⟩
  revert e0 e2 e4 e5 e14 e15; revert t; refine all_len (n := 52) ?_; iterate 52 intro uu'
  intro e0 e2 e4 e5 e14 e15; cases e0; cases e2; cases e4; cases e5; cases e14; cases e15
  refine sw_takeG hp ?_
  clear hp
  have hjoin : ∀ h', all [RowC 42 2 (.slice a k c) k (Z.flatMap encZ), all (rowsC 44 Z)] h' → PZC 42 44 (.slice a k c) Z h' := fun h' e => by
    rw [← hZ] at e ⊢
    exact (all_fold (L1 := [_]) (L2 := rowsC 44 Z)).1 e
  by_cases hlt : k < N
  · obtain ⟨n, hn⟩ : ∃ n, N - k = n + 1 := ⟨N - k - 1, by omega⟩
    rw [hn] at hg
    have htx := text_any r1 g v2 b2 s b.length hv2
    have htl := textR_len b.length s
    have hge : getsR b.length (n + 1) s = match readR (textR b.length s).1 with | none => ([], (textR b.length s).2) | some p => (p :: (getsR b.length n (textR b.length s).2).1, (getsR b.length n (textR b.length s).2).2) := rfl
    generalize (textR b.length s).1 = X at htx htl hge
    generalize (textR b.length s).2 = s3 at htx hge
    have hrd := fun r v (h : U8S r v X) => read_post_any r v X h (by omega)
    cases hX : readR X with
    | none =>
      have hrd2 := fun r v h => (hrd r v h).mono (R' := fun w H => ∃ a c, ∃ q : PostP, w = .tuple #[.agg #[.string (bs q.1), .slice a q.2.length c], .bool false] ∧ H = [RowC 44 2 (.slice a q.2.length c) q.2.length (q.2.flatMap encPl)]) (fun w H ⟨a, c, ok, q, e1, e2, e3⟩ => by
        rw [hX] at e3
        cases ok with
        | false => exact ⟨a, c, q, e1, e2⟩
        | true => cases e3)
      clear hrd
      rw [hX] at hge
      rw [hge] at hg
      have hg3 : getsR b.length N s0 = (Z.map (·.1), s3) := by rw [hg]; simp
      repeat' (first | ((with_reducible apply kx_call (f := 39) (cap := [])); exact goesOf Try.func39 (by kernel_rfl) rfl; rfl; rfl; exact (htx); (exact atks); rintro v' H' ⟨a3, c3, v3, b3, rfl, hv3, rfl⟩; all_goals ((try simp only [List.cons_append, List.nil_append]); (refine apk ?_))) | ((with_reducible apply kx_lendC (A := U8R (.slice a3 X.length c3) X)); (exact atk); intro rx gx hrx hgx hAx; ((with_reducible apply kx_call (f := 38) (cap := [])); exact goesOf Try.func38 (by kernel_rfl) rfl; rfl; rfl; exact (hrd2 rx _ (hAx.sl hgx)); (exact atks); rintro v' H' ⟨a4, c4, q, rfl, rfl⟩; all_goals ((try simp only [List.cons_append, List.nil_append]); (refine apk ?_)))) | ((with_reducible apply sw_joinA (c := .region 9 _ _) (As := [RowC 42 2 (.slice a k c) k (Z.flatMap encZ), all (rowsC 44 Z)]) (D := PZC 42 44 (.slice a k c) Z)); (with_reducible (exact atks)); (intro h' e; exact hjoin h' e)) | (exfalso; contradiction) | (refine aw0 ?_) | (refine ap2 ?_ ?_ <;> first | exact True.intro | intro h) | (refine aw1 ?_) | (refine abx ?_; intro bb) | (refine abz ?_; intro bz) | (refine ahv ?_; intro v' hv') | (refine aac ?_; intro ac cc) | (refine aw2 ?_) | (refine ap4 ?_ ?_ <;> first | exact True.intro | intro h) | (with_reducible refine tr_two ?_ ?_))
      clear hv2
      have hvf : b3 = s3.isNone ∧ ∃ a y c, v3 = .slice a (y : List UInt8).length c ∧ ∀ l, s3 = some l → l = y := by
        rcases hv3 with ⟨rfl, y, rfl, hy⟩ | ⟨rfl, rfl, y, hy⟩
        · obtain ⟨a, c, rfl⟩ := hy.form
          exact ⟨rfl, a, y, c, rfl, fun l e => by injection e with e; exact e.symm⟩
        · obtain ⟨a, c, rfl⟩ := hy.form
          exact ⟨rfl, a, y, c, rfl, fun l e => by cases e⟩
      clear hv3
      obtain ⟨hb3, ay, y, cy, rfl, hyl⟩ := hvf
      have hlf := fun r => rleftF_any r g ay y.length cy b3
      have hok := fun r => rok_any r g (.slice ay y.length cy) b3
      have hpc : ∀ h', all [PZC 42 44 (.slice a k c) Z] h' → PostC 42 44 (.slice a k c) (Z.map (·.1)) h' := fun h' e => ⟨Z, rfl, all_one.1 e⟩
      have hrt := fun (rx gx : Hp) (hA : PZC 42 44 (.slice a k c) Z gx) (hs : sub gx rx) => (pzc_posts hA hs hZ).1 ▸ right_post_any rx (.slice a k c) _ (pzc_posts hA hs hZ).2
      subst hb3
      cases s3 with
      | none =>
        have hgb : getP b = none := by rw [hgp]; simp [hg3]
        rw [hgb] at HR
        rw [show (none : Stt).isNone = true from rfl] at hlf hok ⊢
        repeat' (first | ((with_reducible apply sw_joinA (c := .region 9 _ _) (As := [RowC 42 2 (.slice a k c) k (Z.flatMap encZ), all (rowsC 44 Z)]) (D := PZC 42 44 (.slice a k c) Z)); (with_reducible (exact atks)); (intro h' e; exact hjoin h' e)) | ((with_reducible apply kx_call (f := 40) (cap := [])); exact goesOf Try.func40 (by kernel_rfl) rfl; rfl; rfl; exact (hok _); (exact atks); rintro v' H' ⟨rfl, rfl⟩; all_goals ((try simp only [List.cons_append, List.nil_append]); (refine apk ?_))) | ((with_reducible apply kx_call (f := 41) (cap := [])); exact goesOf Try.func41 (by kernel_rfl) rfl; rfl; rfl; exact (hlf _); (exact atks); rintro v' H' ⟨rfl, rfl⟩; all_goals ((try simp only [List.cons_append, List.nil_append]); (refine apk ?_))) | ((with_reducible apply kx_lendC (A := PZC 42 44 (.slice a k c) Z)); (exact atk); intro rx gx hrx hgx hAx; ((with_reducible apply kx_call (f := 22) (cap := [])); exact goesOf Try.func22 (by kernel_rfl) rfl; rfl; rfl; exact (hrt rx gx hAx hgx); (exact atks); rintro v' H' ⟨rfl, rfl⟩; all_goals ((try simp only [List.cons_append, List.nil_append]); (refine apk ?_)))) | ((with_reducible apply sw_joinA (c := .region 11 _ _) (As := [PZC 42 44 (.slice a k c) Z]) (D := PostC 42 44 (.slice a k c) (Z.map (·.1)))); (with_reducible (exact atks)); (intro h' e; exact hpc h' e)) | (exfalso; first | contradiction | omega) | (refine aw0 ?_) | (refine ap2 ?_ ?_ <;> first | exact True.intro | intro h) | (refine aw1 ?_) | (refine abx ?_; intro bb) | (refine abz ?_; intro bz) | (refine ahv ?_; intro v' hv') | (refine aac ?_; intro ac cc) | (refine aw2 ?_) | (refine ap4 ?_ ?_ <;> first | exact True.intro | intro h) | (with_reducible refine tr_two ?_ ?_))
        all_goals (((with_reducible apply fp_ret); exact res_2 rfl rfl rfl); exact HR.out _ _ _ [PostC 42 44 (.slice none 0 0) []] (by (exact atks)) ⟨none, 0, rfl, rfl⟩)
      | some y2 =>
        obtain rfl := hyl y2 rfl
        rw [show (some y2 : Stt).isNone = false from rfl] at hlf hok ⊢
        simp only [Bool.false_eq_true, if_false] at hlf
        by_cases c1 : y2.length = 0
        · obtain rfl : y2 = [] := List.length_eq_zero_iff.1 c1
          by_cases c2 : k = N
          · cases c3 : postsOk [] (Z.map (·.1))
            · have hgb : getP b = none := by rw [hgp]; simp [hg3, c3]
              rw [hgb] at HR
              rw [c3] at hrt
              repeat' (first | ((with_reducible apply sw_joinA (c := .region 9 _ _) (As := [RowC 42 2 (.slice a k c) k (Z.flatMap encZ), all (rowsC 44 Z)]) (D := PZC 42 44 (.slice a k c) Z)); (with_reducible (exact atks)); (intro h' e; exact hjoin h' e)) | ((with_reducible apply kx_call (f := 40) (cap := [])); exact goesOf Try.func40 (by kernel_rfl) rfl; rfl; rfl; exact (hok _); (exact atks); rintro v' H' ⟨rfl, rfl⟩; all_goals ((try simp only [List.cons_append, List.nil_append]); (refine apk ?_))) | ((with_reducible apply kx_call (f := 41) (cap := [])); exact goesOf Try.func41 (by kernel_rfl) rfl; rfl; rfl; exact (hlf _); (exact atks); rintro v' H' ⟨rfl, rfl⟩; all_goals ((try simp only [List.cons_append, List.nil_append]); (refine apk ?_))) | ((with_reducible apply kx_lendC (A := PZC 42 44 (.slice a k c) Z)); (exact atk); intro rx gx hrx hgx hAx; ((with_reducible apply kx_call (f := 22) (cap := [])); exact goesOf Try.func22 (by kernel_rfl) rfl; rfl; rfl; exact (hrt rx gx hAx hgx); (exact atks); rintro v' H' ⟨rfl, rfl⟩; all_goals ((try simp only [List.cons_append, List.nil_append]); (refine apk ?_)))) | ((with_reducible apply sw_joinA (c := .region 11 _ _) (As := [PZC 42 44 (.slice a k c) Z]) (D := PostC 42 44 (.slice a k c) (Z.map (·.1)))); (with_reducible (exact atks)); (intro h' e; exact hpc h' e)) | (exfalso; first | contradiction | omega) | (refine aw0 ?_) | (refine ap2 ?_ ?_ <;> first | exact True.intro | intro h) | (refine aw1 ?_) | (refine abx ?_; intro bb) | (refine abz ?_; intro bz) | (refine ahv ?_; intro v' hv') | (refine aac ?_; intro ac cc) | (refine aw2 ?_) | (refine ap4 ?_ ?_ <;> first | exact True.intro | intro h) | (with_reducible refine tr_two ?_ ?_))
              all_goals (((with_reducible apply fp_ret); exact res_2 rfl rfl rfl); exact HR.out _ _ _ [PostC 42 44 (.slice none 0 0) []] (by (exact atks)) ⟨none, 0, rfl, rfl⟩)
            · have hgb : getP b = some (Z.map (·.1)) := by rw [hgp]; simp [hg3, c3, hZ, c2]
              rw [hgb] at HR
              rw [c3] at hrt
              repeat' (first | ((with_reducible apply sw_joinA (c := .region 9 _ _) (As := [RowC 42 2 (.slice a k c) k (Z.flatMap encZ), all (rowsC 44 Z)]) (D := PZC 42 44 (.slice a k c) Z)); (with_reducible (exact atks)); (intro h' e; exact hjoin h' e)) | ((with_reducible apply kx_call (f := 40) (cap := [])); exact goesOf Try.func40 (by kernel_rfl) rfl; rfl; rfl; exact (hok _); (exact atks); rintro v' H' ⟨rfl, rfl⟩; all_goals ((try simp only [List.cons_append, List.nil_append]); (refine apk ?_))) | ((with_reducible apply kx_call (f := 41) (cap := [])); exact goesOf Try.func41 (by kernel_rfl) rfl; rfl; rfl; exact (hlf _); (exact atks); rintro v' H' ⟨rfl, rfl⟩; all_goals ((try simp only [List.cons_append, List.nil_append]); (refine apk ?_))) | ((with_reducible apply kx_lendC (A := PZC 42 44 (.slice a k c) Z)); (exact atk); intro rx gx hrx hgx hAx; ((with_reducible apply kx_call (f := 22) (cap := [])); exact goesOf Try.func22 (by kernel_rfl) rfl; rfl; rfl; exact (hrt rx gx hAx hgx); (exact atks); rintro v' H' ⟨rfl, rfl⟩; all_goals ((try simp only [List.cons_append, List.nil_append]); (refine apk ?_)))) | ((with_reducible apply sw_joinA (c := .region 11 _ _) (As := [PZC 42 44 (.slice a k c) Z]) (D := PostC 42 44 (.slice a k c) (Z.map (·.1)))); (with_reducible (exact atks)); (intro h' e; exact hpc h' e)) | (exfalso; first | contradiction | omega) | (refine aw0 ?_) | (refine ap2 ?_ ?_ <;> first | exact True.intro | intro h) | (refine aw1 ?_) | (refine abx ?_; intro bb) | (refine abz ?_; intro bz) | (refine ahv ?_; intro v' hv') | (refine aac ?_; intro ac cc) | (refine aw2 ?_) | (refine ap4 ?_ ?_ <;> first | exact True.intro | intro h) | (with_reducible refine tr_two ?_ ?_))
              all_goals (((with_reducible apply fp_ret); exact res_2 rfl rfl rfl); exact HR.out _ _ _ [PostC 42 44 (.slice a k c) (Z.map (·.1))] (by (exact atks)) ⟨a, c, (by show Value.tuple #[.slice a k c, .int .i64 0] = Value.tuple #[.slice a (Z.map (·.1)).length c, .int .i64 0]; rw [List.length_map, hZ]), (by show [PostC 42 44 (.slice a k c) (Z.map (·.1))] = [PostC 42 44 (.slice a (Z.map (·.1)).length c) (Z.map (·.1))]; rw [List.length_map, hZ])⟩)
          · have hgb : getP b = none := by rw [hgp]; simp [hg3, hZ, c2]
            rw [hgb] at HR
            repeat' (first | ((with_reducible apply sw_joinA (c := .region 9 _ _) (As := [RowC 42 2 (.slice a k c) k (Z.flatMap encZ), all (rowsC 44 Z)]) (D := PZC 42 44 (.slice a k c) Z)); (with_reducible (exact atks)); (intro h' e; exact hjoin h' e)) | ((with_reducible apply kx_call (f := 40) (cap := [])); exact goesOf Try.func40 (by kernel_rfl) rfl; rfl; rfl; exact (hok _); (exact atks); rintro v' H' ⟨rfl, rfl⟩; all_goals ((try simp only [List.cons_append, List.nil_append]); (refine apk ?_))) | ((with_reducible apply kx_call (f := 41) (cap := [])); exact goesOf Try.func41 (by kernel_rfl) rfl; rfl; rfl; exact (hlf _); (exact atks); rintro v' H' ⟨rfl, rfl⟩; all_goals ((try simp only [List.cons_append, List.nil_append]); (refine apk ?_))) | ((with_reducible apply kx_lendC (A := PZC 42 44 (.slice a k c) Z)); (exact atk); intro rx gx hrx hgx hAx; ((with_reducible apply kx_call (f := 22) (cap := [])); exact goesOf Try.func22 (by kernel_rfl) rfl; rfl; rfl; exact (hrt rx gx hAx hgx); (exact atks); rintro v' H' ⟨rfl, rfl⟩; all_goals ((try simp only [List.cons_append, List.nil_append]); (refine apk ?_)))) | ((with_reducible apply sw_joinA (c := .region 11 _ _) (As := [PZC 42 44 (.slice a k c) Z]) (D := PostC 42 44 (.slice a k c) (Z.map (·.1)))); (with_reducible (exact atks)); (intro h' e; exact hpc h' e)) | (exfalso; first | contradiction | omega) | (refine aw0 ?_) | (refine ap2 ?_ ?_ <;> first | exact True.intro | intro h) | (refine aw1 ?_) | (refine abx ?_; intro bb) | (refine abz ?_; intro bz) | (refine ahv ?_; intro v' hv') | (refine aac ?_; intro ac cc) | (refine aw2 ?_) | (refine ap4 ?_ ?_ <;> first | exact True.intro | intro h) | (with_reducible refine tr_two ?_ ?_))
            all_goals (((with_reducible apply fp_ret); exact res_2 rfl rfl rfl); exact HR.out _ _ _ [PostC 42 44 (.slice none 0 0) []] (by (exact atks)) ⟨none, 0, rfl, rfl⟩)
        · have hgb : getP b = none := by
            rw [hgp, hg3]
            rw [if_neg]
            rintro ⟨h, _⟩
            injection h with h
            rw [h] at c1; exact c1 rfl
          rw [hgb] at HR
          repeat' (first | ((with_reducible apply sw_joinA (c := .region 9 _ _) (As := [RowC 42 2 (.slice a k c) k (Z.flatMap encZ), all (rowsC 44 Z)]) (D := PZC 42 44 (.slice a k c) Z)); (with_reducible (exact atks)); (intro h' e; exact hjoin h' e)) | ((with_reducible apply kx_call (f := 40) (cap := [])); exact goesOf Try.func40 (by kernel_rfl) rfl; rfl; rfl; exact (hok _); (exact atks); rintro v' H' ⟨rfl, rfl⟩; all_goals ((try simp only [List.cons_append, List.nil_append]); (refine apk ?_))) | ((with_reducible apply kx_call (f := 41) (cap := [])); exact goesOf Try.func41 (by kernel_rfl) rfl; rfl; rfl; exact (hlf _); (exact atks); rintro v' H' ⟨rfl, rfl⟩; all_goals ((try simp only [List.cons_append, List.nil_append]); (refine apk ?_))) | ((with_reducible apply kx_lendC (A := PZC 42 44 (.slice a k c) Z)); (exact atk); intro rx gx hrx hgx hAx; ((with_reducible apply kx_call (f := 22) (cap := [])); exact goesOf Try.func22 (by kernel_rfl) rfl; rfl; rfl; exact (hrt rx gx hAx hgx); (exact atks); rintro v' H' ⟨rfl, rfl⟩; all_goals ((try simp only [List.cons_append, List.nil_append]); (refine apk ?_)))) | ((with_reducible apply sw_joinA (c := .region 11 _ _) (As := [PZC 42 44 (.slice a k c) Z]) (D := PostC 42 44 (.slice a k c) (Z.map (·.1)))); (with_reducible (exact atks)); (intro h' e; exact hpc h' e)) | (exfalso; first | contradiction | omega) | (refine aw0 ?_) | (refine ap2 ?_ ?_ <;> first | exact True.intro | intro h) | (refine aw1 ?_) | (refine abx ?_; intro bb) | (refine abz ?_; intro bz) | (refine ahv ?_; intro v' hv') | (refine aac ?_; intro ac cc) | (refine aw2 ?_) | (refine ap4 ?_ ?_ <;> first | exact True.intro | intro h) | (with_reducible refine tr_two ?_ ?_))
          all_goals (((with_reducible apply fp_ret); exact res_2 rfl rfl rfl); exact HR.out _ _ _ [PostC 42 44 (.slice none 0 0) []] (by (exact atks)) ⟨none, 0, rfl, rfl⟩)
    | some p =>
      have hrd2 := fun r v h => (hrd r v h).mono (R' := fun w H => ∃ a c, w = .tuple #[.agg #[.string (bs p.1), .slice a p.2.length c], .bool true] ∧ H = [RowC 44 2 (.slice a p.2.length c) p.2.length (p.2.flatMap encPl)]) (fun w H ⟨a, c, ok, q, e1, e2, e3⟩ => by
        rw [hX] at e3
        cases ok with
        | false => cases e3
        | true =>
          rw [if_pos rfl] at e3
          injection e3 with e3
          subst e3
          exact ⟨a, c, e1, e2⟩)
      clear hrd
      rw [hX] at hge
      rw [hge] at hg
      dsimp only at hg
      have hkb : k ≤ 200000 := by omega
      repeat' (first | ((with_reducible apply kx_call (f := 39) (cap := [])); exact goesOf Try.func39 (by kernel_rfl) rfl; rfl; rfl; exact (htx); (exact atks); rintro v' H' ⟨a3, c3, v3, b3, rfl, hv3, rfl⟩; all_goals ((try simp only [List.cons_append, List.nil_append]); (refine apk ?_))) | ((with_reducible apply kx_lendC (A := U8R (.slice a3 X.length c3) X)); (exact atk); intro rx gx hrx hgx hAx; ((with_reducible apply kx_call (f := 38) (cap := [])); exact goesOf Try.func38 (by kernel_rfl) rfl; rfl; rfl; exact (hrd2 rx _ (hAx.sl hgx)); (exact atks); rintro v' H' ⟨a4, c4, rfl, rfl⟩; all_goals ((try simp only [List.cons_append, List.nil_append]); (refine apk ?_)))) | (first | ((with_reducible apply kx_append1); exact ty_el; exact ty_inf; rfl; rfl; rfl; (exact atk); (exact atk); rfl; omega; intro a' c'; (refine apk ?_)) | ((with_reducible apply kx_appendN); exact ty_el; exact ty_inf; rfl; rfl; rfl; rfl; (exact atk); (exact atk); rfl; rfl; omega; intro a' c'; (refine apk ?_))) | ((with_reducible apply sw_joinA (c := .region 8 _ _) (As := [all (rowsC 44 Z), RowC 44 2 (.slice a4 p.2.length c4) p.2.length (p.2.flatMap encPl)]) (D := all (rowsC 44 (Z ++ [(p, .slice a4 p.2.length c4)])))); (with_reducible (exact atks)); (intro h' e; exact rows_snoc (z := (p, .slice a4 p.2.length c4)) h' e)) | (exfalso; contradiction) | (refine aw0 ?_) | (refine ap2 ?_ ?_ <;> first | exact True.intro | intro h) | (refine aw1 ?_) | (refine abx ?_; intro bb) | (refine abz ?_; intro bz) | (refine ahv ?_; intro v' hv') | (refine aac ?_; intro ac cc) | (refine aw2 ?_) | (refine ap4 ?_ ?_ <;> first | exact True.intro | intro h) | (with_reducible refine tr_two ?_ ?_))
      exact ⟨_, (by omega), k + 1, Z ++ [(p, .slice a4 p.2.length c4)], s3, v3, b3, a', c', rfl, by omega, by simp [hZ], by rw [hg, show N - (k + 1) = n by omega]; simp, hv3, ⟨_, by rw [List.flatMap_append, show [((p, .slice a4 p.2.length c4) : PZ)].flatMap encZ = [.string (bs p.1), .slice a4 p.2.length c4] from rfl]; (exact atks)⟩, rfl, (by first | rfl | exact congrArg some (congrArg (Value.int _) (by omega)) | exact congrArg some (congrArg (fun n => Value.slice _ n _) (by omega)) | (congr 2 <;> omega)), (by first | rfl | exact congrArg some (congrArg (Value.int _) (by omega)) | exact congrArg some (congrArg (fun n => Value.slice _ n _) (by omega)) | (congr 2 <;> omega)), (by first | rfl | exact congrArg some (congrArg (Value.int _) (by omega)) | exact congrArg some (congrArg (fun n => Value.slice _ n _) (by omega)) | (congr 2 <;> omega)), (by first | rfl | exact congrArg some (congrArg (Value.int _) (by omega)) | exact congrArg some (congrArg (fun n => Value.slice _ n _) (by omega)) | (congr 2 <;> omega)), (by first | rfl | exact congrArg some (congrArg (Value.int _) (by omega)) | exact congrArg some (congrArg (fun n => Value.slice _ n _) (by omega)) | (congr 2 <;> omega)), (by first | rfl | exact congrArg some (congrArg (Value.int _) (by omega)) | exact congrArg some (congrArg (fun n => Value.slice _ n _) (by omega)) | (congr 2 <;> omega))⟩
  · obtain rfl : k = N := by omega
    rw [Nat.sub_self] at hg
    have hg3 : getsR b.length k s0 = (Z.map (·.1), s) := by rw [hg]; simp [getsR]
    have hvf : b2 = s.isNone ∧ ∃ a y c, v2 = .slice a (y : List UInt8).length c ∧ ∀ l, s = some l → l = y := by
      rcases hv2 with ⟨rfl, y, rfl, hy⟩ | ⟨rfl, rfl, y, hy⟩
      · obtain ⟨a, c, rfl⟩ := hy.form
        exact ⟨rfl, a, y, c, rfl, fun l e => by injection e with e; exact e.symm⟩
      · obtain ⟨a, c, rfl⟩ := hy.form
        exact ⟨rfl, a, y, c, rfl, fun l e => by cases e⟩
    clear hv2
    obtain ⟨hb2, ay, y, cy, rfl, hyl⟩ := hvf
    have hlf := fun r => rleftF_any r g ay y.length cy b2
    have hok := fun r => rok_any r g (.slice ay y.length cy) b2
    have hpc : ∀ h', all [PZC 42 44 (.slice a k c) Z] h' → PostC 42 44 (.slice a k c) (Z.map (·.1)) h' := fun h' e => ⟨Z, rfl, all_one.1 e⟩
    have hrt := fun (rx gx : Hp) (hA : PZC 42 44 (.slice a k c) Z gx) (hs : sub gx rx) => (pzc_posts hA hs hZ).1 ▸ right_post_any rx (.slice a k c) _ (pzc_posts hA hs hZ).2
    subst hb2
    cases s with
    | none =>
      have hgb : getP b = none := by rw [hgp]; simp [hg3]
      rw [hgb] at HR
      rw [show (none : Stt).isNone = true from rfl] at hlf hok ⊢
      repeat' (first | ((with_reducible apply sw_joinA (c := .region 9 _ _) (As := [RowC 42 2 (.slice a k c) k (Z.flatMap encZ), all (rowsC 44 Z)]) (D := PZC 42 44 (.slice a k c) Z)); (with_reducible (exact atks)); (intro h' e; exact hjoin h' e)) | ((with_reducible apply kx_call (f := 40) (cap := [])); exact goesOf Try.func40 (by kernel_rfl) rfl; rfl; rfl; exact (hok _); (exact atks); rintro v' H' ⟨rfl, rfl⟩; all_goals ((try simp only [List.cons_append, List.nil_append]); (refine apk ?_))) | ((with_reducible apply kx_call (f := 41) (cap := [])); exact goesOf Try.func41 (by kernel_rfl) rfl; rfl; rfl; exact (hlf _); (exact atks); rintro v' H' ⟨rfl, rfl⟩; all_goals ((try simp only [List.cons_append, List.nil_append]); (refine apk ?_))) | ((with_reducible apply kx_lendC (A := PZC 42 44 (.slice a k c) Z)); (exact atk); intro rx gx hrx hgx hAx; ((with_reducible apply kx_call (f := 22) (cap := [])); exact goesOf Try.func22 (by kernel_rfl) rfl; rfl; rfl; exact (hrt rx gx hAx hgx); (exact atks); rintro v' H' ⟨rfl, rfl⟩; all_goals ((try simp only [List.cons_append, List.nil_append]); (refine apk ?_)))) | ((with_reducible apply sw_joinA (c := .region 11 _ _) (As := [PZC 42 44 (.slice a k c) Z]) (D := PostC 42 44 (.slice a k c) (Z.map (·.1)))); (with_reducible (exact atks)); (intro h' e; exact hpc h' e)) | (exfalso; first | contradiction | omega) | (refine aw0 ?_) | (refine ap2 ?_ ?_ <;> first | exact True.intro | intro h) | (refine aw1 ?_) | (refine abx ?_; intro bb) | (refine abz ?_; intro bz) | (refine ahv ?_; intro v' hv') | (refine aac ?_; intro ac cc) | (refine aw2 ?_) | (refine ap4 ?_ ?_ <;> first | exact True.intro | intro h) | (with_reducible refine tr_two ?_ ?_))
      all_goals (((with_reducible apply fp_ret); exact res_2 rfl rfl rfl); exact HR.out _ _ _ [PostC 42 44 (.slice none 0 0) []] (by (exact atks)) ⟨none, 0, rfl, rfl⟩)
    | some y2 =>
      obtain rfl := hyl y2 rfl
      rw [show (some y2 : Stt).isNone = false from rfl] at hlf hok ⊢
      simp only [Bool.false_eq_true, if_false] at hlf
      by_cases c1 : y2.length = 0
      · obtain rfl : y2 = [] := List.length_eq_zero_iff.1 c1
        skip
        · cases c3 : postsOk [] (Z.map (·.1))
          · have hgb : getP b = none := by rw [hgp]; simp [hg3, c3]
            rw [hgb] at HR
            rw [c3] at hrt
            repeat' (first | ((with_reducible apply sw_joinA (c := .region 9 _ _) (As := [RowC 42 2 (.slice a k c) k (Z.flatMap encZ), all (rowsC 44 Z)]) (D := PZC 42 44 (.slice a k c) Z)); (with_reducible (exact atks)); (intro h' e; exact hjoin h' e)) | ((with_reducible apply kx_call (f := 40) (cap := [])); exact goesOf Try.func40 (by kernel_rfl) rfl; rfl; rfl; exact (hok _); (exact atks); rintro v' H' ⟨rfl, rfl⟩; all_goals ((try simp only [List.cons_append, List.nil_append]); (refine apk ?_))) | ((with_reducible apply kx_call (f := 41) (cap := [])); exact goesOf Try.func41 (by kernel_rfl) rfl; rfl; rfl; exact (hlf _); (exact atks); rintro v' H' ⟨rfl, rfl⟩; all_goals ((try simp only [List.cons_append, List.nil_append]); (refine apk ?_))) | ((with_reducible apply kx_lendC (A := PZC 42 44 (.slice a k c) Z)); (exact atk); intro rx gx hrx hgx hAx; ((with_reducible apply kx_call (f := 22) (cap := [])); exact goesOf Try.func22 (by kernel_rfl) rfl; rfl; rfl; exact (hrt rx gx hAx hgx); (exact atks); rintro v' H' ⟨rfl, rfl⟩; all_goals ((try simp only [List.nil_append]); (refine apk ?_)))) | ((with_reducible apply sw_joinA (c := .region 11 _ _) (As := [PZC 42 44 (.slice a k c) Z]) (D := PostC 42 44 (.slice a k c) (Z.map (·.1)))); (with_reducible (exact atks)); (intro h' e; exact hpc h' e)) | (exfalso; first | contradiction | omega) | (refine aw0 ?_) | (refine ap2 ?_ ?_ <;> first | exact True.intro | intro h) | (refine aw1 ?_) | (refine abx ?_; intro bb) | (refine abz ?_; intro bz) | (refine ahv ?_; intro v' hv') | (refine aac ?_; intro ac cc) | (refine aw2 ?_) | (refine ap4 ?_ ?_ <;> first | exact True.intro | intro h) | (with_reducible refine tr_two ?_ ?_))
            all_goals (((with_reducible apply fp_ret); exact res_2 rfl rfl rfl); exact HR.out _ _ _ [PostC 42 44 (.slice none 0 0) []] (by (exact atks)) ⟨none, 0, rfl, rfl⟩)
          · have hgb : getP b = some (Z.map (·.1)) := by rw [hgp]; simp [hg3, c3, hZ]
            rw [hgb] at HR
            rw [c3] at hrt
            repeat' (first | ((with_reducible apply sw_joinA (c := .region 9 _ _) (As := [RowC 42 2 (.slice a k c) k (Z.flatMap encZ), all (rowsC 44 Z)]) (D := PZC 42 44 (.slice a k c) Z)); (with_reducible (exact atks)); (intro h' e; exact hjoin h' e)) | ((with_reducible apply kx_call (f := 40) (cap := [])); exact goesOf Try.func40 (by kernel_rfl) rfl; rfl; rfl; exact (hok _); (exact atks); rintro v' H' ⟨rfl, rfl⟩; all_goals ((try simp only [List.cons_append, List.nil_append]); (refine apk ?_))) | ((with_reducible apply kx_call (f := 41) (cap := [])); exact goesOf Try.func41 (by kernel_rfl) rfl; rfl; rfl; exact (hlf _); (exact atks); rintro v' H' ⟨rfl, rfl⟩; all_goals ((try simp only [List.cons_append, List.nil_append]); (refine apk ?_))) | ((with_reducible apply kx_lendC (A := PZC 42 44 (.slice a k c) Z)); (exact atk); intro rx gx hrx hgx hAx; ((with_reducible apply kx_call (f := 22) (cap := [])); exact goesOf Try.func22 (by kernel_rfl) rfl; rfl; rfl; exact (hrt rx gx hAx hgx); (exact atks); rintro v' H' ⟨rfl, rfl⟩; all_goals ((try simp only [List.nil_append]); (refine apk ?_)))) | ((with_reducible apply sw_joinA (c := .region 11 _ _) (As := [PZC 42 44 (.slice a k c) Z]) (D := PostC 42 44 (.slice a k c) (Z.map (·.1)))); (with_reducible (exact atks)); (intro h' e; exact hpc h' e)) | (exfalso; first | contradiction | omega) | (refine aw0 ?_) | (refine ap2 ?_ ?_ <;> first | exact True.intro | intro h) | (refine aw1 ?_) | (refine abx ?_; intro bb) | (refine abz ?_; intro bz) | (refine ahv ?_; intro v' hv') | (refine aac ?_; intro ac cc) | (refine aw2 ?_) | (refine ap4 ?_ ?_ <;> first | exact True.intro | intro h) | (with_reducible refine tr_two ?_ ?_))
            all_goals (((with_reducible apply fp_ret); exact res_2 rfl rfl rfl); exact HR.out _ _ _ [PostC 42 44 (.slice a k c) (Z.map (·.1))] (by (exact atks)) ⟨a, c, (by show Value.tuple #[.slice a k c, .int .i64 0] = Value.tuple #[.slice a (Z.map (·.1)).length c, .int .i64 0]; rw [List.length_map, hZ]), (by show [PostC 42 44 (.slice a k c) (Z.map (·.1))] = [PostC 42 44 (.slice a (Z.map (·.1)).length c) (Z.map (·.1))]; rw [List.length_map, hZ])⟩)
      · have hgb : getP b = none := by
          rw [hgp, hg3]
          rw [if_neg]
          rintro ⟨h, _⟩
          injection h with h
          rw [h] at c1; exact c1 rfl
        rw [hgb] at HR
        repeat' (first | ((with_reducible apply sw_joinA (c := .region 9 _ _) (As := [RowC 42 2 (.slice a k c) k (Z.flatMap encZ), all (rowsC 44 Z)]) (D := PZC 42 44 (.slice a k c) Z)); (with_reducible (exact atks)); (intro h' e; exact hjoin h' e)) | ((with_reducible apply kx_call (f := 40) (cap := [])); exact goesOf Try.func40 (by kernel_rfl) rfl; rfl; rfl; exact (hok _); (exact atks); rintro v' H' ⟨rfl, rfl⟩; all_goals ((try simp only [List.cons_append, List.nil_append]); (refine apk ?_))) | ((with_reducible apply kx_call (f := 41) (cap := [])); exact goesOf Try.func41 (by kernel_rfl) rfl; rfl; rfl; exact (hlf _); (exact atks); rintro v' H' ⟨rfl, rfl⟩; all_goals ((try simp only [List.cons_append, List.nil_append]); (refine apk ?_))) | ((with_reducible apply kx_lendC (A := PZC 42 44 (.slice a k c) Z)); (exact atk); intro rx gx hrx hgx hAx; ((with_reducible apply kx_call (f := 22) (cap := [])); exact goesOf Try.func22 (by kernel_rfl) rfl; rfl; rfl; exact (hrt rx gx hAx hgx); (exact atks); rintro v' H' ⟨rfl, rfl⟩; all_goals ((try simp only [List.cons_append, List.nil_append]); (refine apk ?_)))) | ((with_reducible apply sw_joinA (c := .region 11 _ _) (As := [PZC 42 44 (.slice a k c) Z]) (D := PostC 42 44 (.slice a k c) (Z.map (·.1)))); (with_reducible (exact atks)); (intro h' e; exact hpc h' e)) | (exfalso; first | contradiction | omega) | (refine aw0 ?_) | (refine ap2 ?_ ?_ <;> first | exact True.intro | intro h) | (refine aw1 ?_) | (refine abx ?_; intro bb) | (refine abz ?_; intro bz) | (refine ahv ?_; intro v' hv') | (refine aac ?_; intro ac cc) | (refine aw2 ?_) | (refine ap4 ?_ ?_ <;> first | exact True.intro | intro h) | (with_reducible refine tr_two ?_ ?_))
        all_goals (((with_reducible apply fp_ret); exact res_2 rfl rfl rfl); exact HR.out _ _ _ [PostC 42 44 (.slice none 0 0) []] (by (exact atks)) ⟨none, 0, rfl, rfl⟩)
end Go.Proofs.Ytkbajhiahpkgiaa
