
/- mudlarkkit.flatTexts: its contract (printed by tools/gen_ft.py). -/
import Derived.Test.YtgodcegaffgfjaaGreatDoorKi
import Derived.Test.YtgodcegaffgfjaaGreatDoorTw
import Derived.Test.YtgodcegaffgfjaaGreatDoorFb
import Derived.Test.YtgodcegaffgfjaaGreatDoorUb
namespace Go.Proofs.YtgodcegaffgfjaaGreatDoor
open Go.RowKit Sx

namespace Ft
abbrev txs (l : List Tx) : List Value := l.flatMap encTx
theorem txs_map (l : List Tx) : txs l = l.map fun t => Value.string (bs t) := by
  induction l with
  | nil => rfl
  | cons x l ih => rw [List.map_cons, ← ih]; rfl
theorem txs_one (l : List Tx) : (txs l).all one? = true := by rw [txs_map]; simp [one?]
/-- A slice of texts, written out. -/
structure RowV where
  a : Option Addr
  c : Nat
  l : List Tx
instance : Inhabited RowV := ⟨⟨none, 0, []⟩⟩
def RowV.val (x : RowV) : Value := .slice x.a x.l.length x.c
def encS (x : RowV) : List Value := [.slice x.a x.l.length x.c]
def mrow (k m : Nat) : List Tx := (List.range m).map (markT k)
theorem mrow_len (k m : Nat) : (mrow k m).length = m := by simp [mrow]
theorem mrow_at {k m i : Nat} (h : i < m) : (mrow k m).getD i default = markT k i := by simp [mrow, h]
theorem mrow_succ (k m : Nat) : mrow k (m + 1) = mrow k m ++ [markT k m] := by simp [mrow, List.range_succ]
/-- The cells of a row, of which those below i were written. -/
def half (k i : Nat) (l : List Tx) : List Value := txs (mrow k i ++ l.drop i)
theorem half_set {k i : Nat} {l : List Tx} (h : i < l.length) : (half k i l).set i (.string (bs (markT k i))) = half (k) (i + 1) l := by
  have e : ((mrow k i).map fun t => Value.string (bs t)).length = i := by simp [mrow]
  unfold half
  rw [txs_map, txs_map, mrow_succ, List.drop_eq_getElem_cons h, List.map_append, List.map_append, List.map_append, List.map_cons, List.set_append_right _ _ (by omega), e, Nat.sub_self, List.set_cons_zero, List.append_assoc]
  rfl
theorem half_len {k i : Nat} {l : List Tx} (h : i ≤ l.length) : (half k i l).length = l.length := by
  unfold half
  rw [txs_map]
  simp [mrow]; omega
theorem half_end (k : Nat) (l : List Tx) : half k l.length l = txs (mrow k l.length) := by simp [half]
/-- What was grown out of each, of which those below k are laid. -/
def gsL (n k : Nat) (gf : Nat → Value) : List Value := (List.range n).map fun j => if j < k then gf j else .slice none 0 0
theorem gsL_len (n k : Nat) (gf : Nat → Value) : (gsL n k gf).length = n := by simp [gsL]
theorem gsL_zero (n : Nat) (gf : Nat → Value) : gsL n 0 gf = List.replicate n (.slice none 0 0) := by
  apply List.ext_getElem?
  intro j
  by_cases h : j < n <;> simp [gsL, h]
def turn (gf : Nat → Value) (k : Nat) (g : Value) : Nat → Value := fun j => if j = k then g else gf j
theorem gsL_set {n k : Nat} {gf : Nat → Value} {g : Value} : (gsL n k gf).set k g = gsL n (k + 1) (turn gf k g) := by
  apply List.ext_getElem?
  intro j
  by_cases h : j < n
  · by_cases e : k = j
    · subst e
      simp [gsL, turn, h]
    · rw [List.getElem?_set_ne e]
      by_cases h2 : j < k
      · simp [gsL, turn, h, h2, show j < k + 1 by omega, show j ≠ k by omega]
      · simp [gsL, turn, h, h2, show ¬ j < k + 1 by omega]
  · rw [List.getElem?_eq_none (by rw [List.length_set, gsL_len]; omega), List.getElem?_eq_none (by rw [gsL_len]; omega)]
abbrev fb2 (rows : List RowV) (gf : Nat → Value) (j : Nat) : Ch := Two 9 1 (.slice (rows.getD j default).a (rows.getD j default).l.length (rows.getD j default).c) (rows.getD j default).l.length (txs (mrow j (rows.getD j default).l.length)) (gf j) ((rows.getD j default).l.length + 64) (txs (mrow j ((rows.getD j default).l.length + 64)))
theorem fb2_turn {n : Nat} {rows : List RowV} {gf : Nat → Value} {B : Nat → Ch} {k : Nat} {g : Value} : FamR n (fb2 rows gf) B k = FamR n (fb2 rows (turn gf k g)) B k := by
  unfold FamR
  rw [famL_erase (A' := fb2 rows (turn gf k g)) (B' := B) (k' := k) fun j _ hj => by
    have e : fb2 rows (turn gf k g) j = fb2 rows gf j := by unfold fb2; rw [show turn gf k g j = gf j from if_neg hj]
    rw [e]]
theorem fb2_at {rows : List RowV} {gf : Nat → Value} {k : Nat} {g : Value} : fb2 rows (turn gf k g) k = Two 9 1 (.slice (rows.getD k default).a (rows.getD k default).l.length (rows.getD k default).c) (rows.getD k default).l.length (txs (mrow k (rows.getD k default).l.length)) g ((rows.getD k default).l.length + 64) (txs (mrow k ((rows.getD k default).l.length + 64))) := by
  unfold fb2; rw [show turn gf k g k = g from if_pos rfl]
def gval (rows : List RowV) (ga : Nat → Option Addr × Nat) (j : Nat) : Value := .slice (ga j).1 ((rows.getD j default).l.length + 64) (ga j).2
def turnA (ga : Nat → Option Addr × Nat) (k : Nat) (g : Option Addr × Nat) : Nat → Option Addr × Nat := fun j => if j = k then g else ga j
theorem gval_turn (rows : List RowV) (ga : Nat → Option Addr × Nat) (k : Nat) (a : Option Addr) (c : Nat) : gval rows (turnA ga k (a, c)) = turn (gval rows ga) k (.slice a ((rows.getD k default).l.length + 64) c) := by
  funext j
  by_cases h : j = k
  · subst h; simp [gval, turnA, turn]
  · simp [gval, turnA, turn, h]
/-- The grown rows, written out. -/
def rowsG (rows : List RowV) (ga : Nat → Option Addr × Nat) : List RowV := (List.range rows.length).map fun j => ⟨(ga j).1, (ga j).2, mrow j ((rows.getD j default).l.length + 64)⟩
theorem rowsG_len (rows : List RowV) (ga : Nat → Option Addr × Nat) : (rowsG rows ga).length = rows.length := by simp [rowsG]
theorem rowsG_at {rows : List RowV} {ga : Nat → Option Addr × Nat} {k : Nat} (h : k < rows.length) : (rowsG rows ga).getD k default = ⟨(ga k).1, (ga k).2, mrow k ((rows.getD k default).l.length + 64)⟩ := by simp [rowsG, h]
theorem rowsG_gs (rows : List RowV) (ga : Nat → Option Addr × Nat) : gsL rows.length rows.length (gval rows ga) = (rowsG rows ga).flatMap encS := by
  unfold rowsG gsL
  rw [List.flatMap_map]
  rw [List.map_eq_flatMap]
  unfold List.flatMap
  congr 1
  apply List.map_congr_left
  intro j hj
  have := List.mem_range.1 hj
  simp only [encS, gval, mrow_len, if_pos this]
abbrev fb3 (rows G : List RowV) (j : Nat) : Ch := Two 9 1 (.slice (rows.getD j default).a (rows.getD j default).l.length (rows.getD j default).c) (rows.getD j default).l.length (txs (mrow j (rows.getD j default).l.length)) (.slice (G.getD j default).a (G.getD j default).l.length (G.getD j default).c) (G.getD j default).l.length (txs (G.getD j default).l)
theorem fb3_of {rows : List RowV} {ga : Nat → Option Addr × Nat} {j : Nat} (h : j < rows.length) : fb2 rows (gval rows ga) j = fb3 rows (rowsG rows ga) j := by
  unfold fb2 fb3
  rw [rowsG_at h]
  simp only [gval, mrow_len]
/-- Slices that are laid one by one, in place of older ones. -/
def gsM (n k : Nat) (f g : Nat → Value) : List Value := (List.range n).map fun j => if j < k then f j else g j
theorem gsM_len (n k : Nat) (f g : Nat → Value) : (gsM n k f g).length = n := by simp [gsM]
theorem gsM_set {n k : Nat} {f g : Nat → Value} {x : Value} : (gsM n k f g).set k x = gsM n (k + 1) (turn f k x) g := by
  apply List.ext_getElem?
  intro j
  by_cases h : j < n
  · by_cases e : k = j
    · subst e
      simp [gsM, turn, h]
    · rw [List.getElem?_set_ne e]
      by_cases h2 : j < k
      · simp [gsM, turn, h, h2, show j < k + 1 by omega, show j ≠ k by omega]
      · simp [gsM, turn, h, h2, show ¬ j < k + 1 by omega]
  · rw [List.getElem?_eq_none (by rw [List.length_set, gsM_len]; omega), List.getElem?_eq_none (by rw [gsM_len]; omega)]
def oldV (G : List RowV) (j : Nat) : Value := .slice (G.getD j default).a (G.getD j default).l.length (G.getD j default).c
theorem gsM_zero {G : List RowV} (f : Nat → Value) : gsM G.length 0 f (oldV G) = G.flatMap encS := by
  apply List.ext_getElem?
  intro j
  have e := flat_len (sz := 1) (enc := encS) (fun _ => rfl) G
  by_cases h : j < G.length
  · have h1 := flat_at (sz := 1) (enc := encS) (fun _ => rfl) G j h
    rw [Nat.mul_one] at h1
    have h2 : (G.flatMap encS)[j]? = (encS G[j])[0]? := by rw [← h1]; simp []
    rw [h2]
    simp [gsM, oldV, h, encS]
  · rw [List.getElem?_eq_none (by rw [gsM_len]; omega), List.getElem?_eq_none (by omega)]
/-- What a row reads as, grown by many at once. -/
def mrow5 (n j m : Nat) : List Tx := mrow j m ++ mrow (j + n) 64
theorem mrow5_len (n j m : Nat) : (mrow5 n j m).length = m + 64 := by simp [mrow5, mrow]
theorem mrow5_at {n j m i : Nat} (h : i < m) : (mrow5 n j m).getD i default = markT j i := by
  have := mrow_at (k := j) h
  unfold mrow5
  rw [List.getD_eq_getElem?_getD, List.getElem?_append_left (by rw [mrow_len]; exact h), ← List.getD_eq_getElem?_getD]
  exact this
abbrev fb4 (rows : List RowV) (gf : Nat → Value) (j : Nat) : Ch := Two 9 1 (.slice (rows.getD j default).a (rows.getD j default).l.length (rows.getD j default).c) (rows.getD j default).l.length (txs (mrow j (rows.getD j default).l.length)) (gf j) ((rows.getD j default).l.length + 64) (txs (mrow5 rows.length j (rows.getD j default).l.length))
theorem fb4_turn {n : Nat} {rows : List RowV} {gf : Nat → Value} {B : Nat → Ch} {k : Nat} {g : Value} : FamR n (fb4 rows gf) B k = FamR n (fb4 rows (turn gf k g)) B k := by
  unfold FamR
  rw [famL_erase (A' := fb4 rows (turn gf k g)) (B' := B) (k' := k) fun j _ hj => by
    have e : fb4 rows (turn gf k g) j = fb4 rows gf j := by unfold fb4; rw [show turn gf k g j = gf j from if_neg hj]
    rw [e]]
theorem fb4_at {rows : List RowV} {gf : Nat → Value} {k : Nat} {g : Value} : fb4 rows (turn gf k g) k = Two 9 1 (.slice (rows.getD k default).a (rows.getD k default).l.length (rows.getD k default).c) (rows.getD k default).l.length (txs (mrow k (rows.getD k default).l.length)) g ((rows.getD k default).l.length + 64) (txs (mrow k (rows.getD k default).l.length) ++ txs (mrow (k + rows.length) 64)) := by
  unfold fb4; rw [show turn gf k g k = g from if_pos rfl, mrow5]; simp only [txs, List.flatMap_append]
theorem half64 (k : Nat) : half k 64 (List.replicate 64 ([] : Tx)) = txs (mrow k 64) := by
  have := half_end k (List.replicate 64 ([] : Tx))
  rwa [List.length_replicate] at this
def rowsG5 (rows : List RowV) (ga : Nat → Option Addr × Nat) : List RowV := (List.range rows.length).map fun j => ⟨(ga j).1, (ga j).2, mrow5 rows.length j (rows.getD j default).l.length⟩
theorem rowsG5_len (rows : List RowV) (ga : Nat → Option Addr × Nat) : (rowsG5 rows ga).length = rows.length := by simp [rowsG5]
theorem rowsG5_at {rows : List RowV} {ga : Nat → Option Addr × Nat} {k : Nat} (h : k < rows.length) : (rowsG5 rows ga).getD k default = ⟨(ga k).1, (ga k).2, mrow5 rows.length k (rows.getD k default).l.length⟩ := by simp [rowsG5, h]
theorem rowsG5_gs (rows : List RowV) (ga : Nat → Option Addr × Nat) (g : Nat → Value) : gsM rows.length rows.length (gval rows ga) g = (rowsG5 rows ga).flatMap encS := by
  unfold rowsG5 gsM
  rw [List.flatMap_map]
  rw [List.map_eq_flatMap]
  unfold List.flatMap
  congr 1
  apply List.map_congr_left
  intro j hj
  have := List.mem_range.1 hj
  simp only [encS, gval, mrow5_len, if_pos this]
theorem fb3_of5 {rows : List RowV} {ga : Nat → Option Addr × Nat} {j : Nat} (h : j < rows.length) : fb4 rows (gval rows ga) j = fb3 rows (rowsG5 rows ga) j := by
  unfold fb4 fb3
  rw [rowsG5_at h]
  simp only [gval, mrow5_len]
theorem mrow8 (k m : Nat) : txs (mrow k (m + 1)) = txs (mrow k m) ++ [.string (bs (markT k m))] := by rw [mrow_succ, txs, List.flatMap_append]; rfl
abbrev fb0 (rows : List RowV) (j : Nat) : Ch := RowC 9 1 (.slice (rows.getD j default).a (rows.getD j default).l.length (rows.getD j default).c) (rows.getD j default).l.length (half j 0 (rows.getD j default).l)
abbrev fb1 (rows : List RowV) (j : Nat) : Ch := RowC 9 1 (.slice (rows.getD j default).a (rows.getD j default).l.length (rows.getD j default).c) (rows.getD j default).l.length (half j (rows.getD j default).l.length (rows.getD j default).l)
set_option maxRecDepth 10000 in
set_option maxHeartbeats 4000000 in
theorem flatTexts_any (r : Hp) (v : Value) (rows : List RowV) (hv : Els r 1 encS v rows) (hn : rows.length ≤ 1000000) (hl : ∀ x ∈ rows, x.l.length ≤ 100000000) : Tri Tryz.prog r 57 [v] [Fam rows.length (fb1 rows) (fb0 rows) 0] fun w H => w = .bool true ∧ H = [] := by
  refine Tri.free2 fun R HR => ?_
  refine fn_of_sw Tryz.func57 rfl _ rfl ?_; refine aen Tryz.ntmps57 ?_
  repeat' (first | refine aw0m ?_ | (refine ap2 ?_ ?_ <;> try intro h) | refine aw1m ?_ | (refine abx ?_; intro bb) | (refine abz ?_; intro bz) | (refine ahv ?_; intro v' hv') | (refine aac ?_; intro ac cc) | refine aw2 ?_ | (refine ap4 ?_ ?_ <;> try intro h) | apply True.intro)
  refine sw_loop (fun gm t H' => ∃ k : Nat, gm = rows.length + 1 - k ∧ (k ≤ rows.length) ∧ (∃ G, Takes [Fam rows.length (fb1 rows) (fb0 rows) k] H' G) ∧ Sls t 193 [(0, v), (3, .int .i64 k)]) _ ⟨0, rfl, Nat.zero_le _, ⟨[], atks⟩, asls⟩ ?_
  rintro gm t H' ⟨k, rfl, hk, ⟨G, hp⟩, hs'⟩
  revert t; refine sls_all ?_; iterate 191 intro uu'
  refine sw_takeG hp ?_; clear hp
  by_cases hlt : k < rows.length
  · refine sw_famOpen (n := rows.length) (A := fb1 rows) (B := fb0 rows) (k := k) (by (exact atk)) hlt ?_
    have hmem : rows.getD k default ∈ rows := by simp [hlt]
    have hl1 := hl _ hmem
    repeat' (first | refine aw0m ?_ | (refine ap2 ?_ ?_ <;> try intro h) | refine aw1m ?_ | (refine abx ?_; intro bb) | (refine abz ?_; intro bz) | (refine ahv ?_; intro v' hv') | (refine aac ?_; intro ac cc) | refine aw2 ?_ | (refine ap4 ?_ ?_ <;> try intro h) | apply True.intro)
    refine sw_loop (fun gm t H' => ∃ i : Nat, gm = (rows.getD k default).l.length + 1 - i ∧ (i ≤ (rows.getD k default).l.length) ∧ (∃ G, Takes [RowC 9 1 (.slice (rows.getD k default).a (rows.getD k default).l.length (rows.getD k default).c) (rows.getD k default).l.length (half k i (rows.getD k default).l), FamR rows.length (fb1 rows) (fb0 rows) k] H' G) ∧ Sls t 193 [(0, v), (3, .int .i64 k), (4, .int .i64 i)]) _ ⟨0, rfl, Nat.zero_le _, ⟨[], atks⟩, asls⟩ ?_
    rintro gm t H' ⟨i, rfl, hi, ⟨G, hp⟩, hs'⟩
    revert t; refine sls_all ?_; iterate 190 intro uu'
    refine sw_takeG hp ?_; clear hp
    by_cases hi2 : i < (rows.getD k default).l.length
    · have hlen2 := half_len (k := k) (Nat.le_of_lt hi2)
      repeat' (first | refine aw0m ?_ | (refine ap2 ?_ ?_ <;> try intro h) | (first | ((with_reducible apply sw_draw (id := 7) 8 [(0, true), (1, true), (2, true), (3, true), (4, true), (5, true), (6, true), (7, false)] [(8, false), (9, false)] []); kernel_rfl; (exact atks); kernel_rfl; intro r' hl') | ((with_reducible apply sw_draw (id := 24) 35 [(0, true), (1, true), (2, true), (3, true), (4, true), (5, true), (6, true), (7, true), (8, true), (9, false), (10, true), (11, true), (12, true), (13, true), (14, true), (15, true), (16, true), (17, true), (18, true), (19, true), (20, true), (21, true), (22, true), (23, true), (24, true), (25, true), (26, true), (27, true), (28, true), (29, true), (30, false), (31, true), (32, true), (33, true), (34, true)] [] []); kernel_rfl; (exact atks); kernel_rfl; intro r' hl') | ((with_reducible apply sw_draw (id := 41) 26 [(0, true), (1, true), (2, true), (3, true), (4, true), (5, true), (6, true), (7, true), (8, true), (9, false), (10, true), (11, true), (12, true), (13, true), (14, true), (15, true), (16, true), (17, true), (18, true), (19, true), (20, true), (21, true), (22, false), (23, true), (24, true), (25, true)] [] []); kernel_rfl; (exact atks); kernel_rfl; intro r' hl')) | (refine acl Tryz.func89 ?_; refine acr (markText_any _ k i) ?_; rintro v' H' ⟨rfl, rfl⟩; all_goals refine apl ?_) | ((with_reducible apply kx_stC); exact ty_size; rfl; rfl; (exact atk); rfl; (omega); (refine apk ?_)) | refine aw1m ?_ | (refine abx ?_; intro bb) | (refine abz ?_; intro bz) | (refine ahv ?_; intro v' hv') | (refine aac ?_; intro ac cc) | refine aw2 ?_ | (refine ap4 ?_ ?_ <;> try intro h) | apply True.intro)
      exact ⟨_, by omega, i + 1, rfl, by omega, ⟨_, by rw [← half_set hi2, show ((i : Int).toNat * 1) = i by simp]; (exact atks)⟩, asls⟩
    · obtain rfl : i = (rows.getD k default).l.length := by omega
      refine sw_famShut (n := rows.length) (A := fb1 rows) (B := fb0 rows) (k := k) (X := fb1 rows k) (by (exact atk)) (by (exact atk)) hlt (fun g h => h) ?_
      repeat' (first | refine aw0m ?_ | (refine ap2 ?_ ?_ <;> try intro h) | refine aw1m ?_ | (refine abx ?_; intro bb) | (refine abz ?_; intro bz) | (refine ahv ?_; intro v' hv') | (refine aac ?_; intro ac cc) | refine aw2 ?_ | (refine ap4 ?_ ?_ <;> try intro h) | apply True.intro)
      exact ⟨_, by omega, k + 1, rfl, by omega, ⟨_, atks⟩, asls⟩
  · obtain rfl : k = rows.length := by omega
    refine sw_imp (A := Fam rows.length (fb1 rows) (fb0 rows) rows.length) (B := Fam rows.length (fb2 rows (gval rows fun _ => (none, 0))) (fb1 rows) 0) (by (exact atk)) (fun g h => Fam.turn h) ?_
    repeat' (first | ((with_reducible apply kx_makeN (n := rows.length)); exact ty_el; exact ty_inf; rfl; rfl; rfl; rfl; rfl; (omega); intro bm; (refine apk ?_)) | refine aw0 ?_ | (refine ap2 ?_ ?_ <;> try intro h) | refine aw1 ?_ | (refine abx ?_; intro bb) | (refine abz ?_; intro bz) | (refine ahv ?_; intro v' hv') | (refine aac ?_; intro ac cc) | refine aw2 ?_ | (refine ap4 ?_ ?_ <;> try intro h) | apply True.intro)
    rw [← gsL_zero rows.length (gval rows fun _ => (none, 0))]
    refine sw_loop (fun gm t H' => ∃ (k : Nat) (ga : Nat → Option Addr × Nat), gm = rows.length + 1 - k ∧ (k ≤ rows.length) ∧ (∃ G, Takes [RowC 24 1 (.slice (some ⟨bm, 0, none⟩) rows.length rows.length) rows.length (gsL rows.length k (gval rows ga)), Fam rows.length (fb2 rows (gval rows ga)) (fb1 rows) k] H' G) ∧ Sls t 193 [(0, v), (5, .slice (some ⟨bm, 0, none⟩) rows.length rows.length), (6, .int .i64 k)]) _ ⟨0, fun _ => (none, 0), rfl, Nat.zero_le _, ⟨[], atks⟩, asls⟩ ?_
    rintro gm t H' ⟨k, ga, rfl, hk, ⟨G, hp⟩, hs'⟩
    revert t; refine sls_all ?_; iterate 190 intro uu'
    refine sw_takeG hp ?_; clear hp
    generalize hgf : gval rows ga = gf
    have hgl := gsL_len rows.length k gf
    by_cases hlt : k < rows.length
    · refine sw_famOpen (n := rows.length) (A := fb2 rows gf) (B := fb1 rows) (k := k) (by (exact atk)) hlt ?_
      have hmem : rows.getD k default ∈ rows := by simp [hlt]
      have hl1 := hl _ hmem
      refine sw_imp (A := fb1 rows k) (B := Two 9 1 (.slice (rows.getD k default).a (rows.getD k default).l.length (rows.getD k default).c) (rows.getD k default).l.length (txs (mrow k (rows.getD k default).l.length)) (.slice (rows.getD k default).a (rows.getD k default).l.length (rows.getD k default).c) (rows.getD k default).l.length (txs (mrow k (rows.getD k default).l.length))) (by (exact atk)) (fun g h => by rw [← half_end]; exact Two.start h) ?_
      repeat' (first | refine aw0m ?_ | (refine ap2 ?_ ?_ <;> try intro h) | refine aw1m ?_ | (refine abx ?_; intro bb) | (refine abz ?_; intro bz) | (refine ahv ?_; intro v' hv') | (refine aac ?_; intro ac cc) | refine aw2 ?_ | (refine ap4 ?_ ?_ <;> try intro h) | apply True.intro)
      refine sw_loop (fun gm t H' => ∃ (i : Nat) (a : Option Addr) (c : Nat), gm = 65 - i ∧ (i ≤ 64) ∧ (∃ G, Takes [Two 9 1 (.slice (rows.getD k default).a (rows.getD k default).l.length (rows.getD k default).c) (rows.getD k default).l.length (txs (mrow k (rows.getD k default).l.length)) (.slice a ((rows.getD k default).l.length + i) c) ((rows.getD k default).l.length + i) (txs (mrow k ((rows.getD k default).l.length + i))), RowC 24 1 (.slice (some ⟨bm, 0, none⟩) rows.length rows.length) rows.length (gsL rows.length k gf), FamR rows.length (fb2 rows gf) (fb1 rows) k] H' G) ∧ Sls t 193 [(0, v), (5, .slice (some ⟨bm, 0, none⟩) rows.length rows.length), (6, .int .i64 k), (7, .slice a ((rows.getD k default).l.length + i) c), (8, .int .i64 i)]) _ ⟨0, _, _, rfl, Nat.zero_le _, ⟨[], atks⟩, asls⟩ ?_
      rintro gm t H' ⟨i, a, c, rfl, hi, ⟨G, hp⟩, hs'⟩
      revert t; refine sls_all ?_; iterate 188 intro uu'
      refine sw_takeG hp ?_; clear hp
      by_cases hi2 : i < 64
      · repeat' (first | (refine acl Tryz.func89 ?_; refine acr (by rw [show (((rows.getD k default).l.length : Int) + (i : Nat)) = (((rows.getD k default).l.length + i : Nat) : Int) by omega]; exact markText_any _ k ((rows.getD k default).l.length + i)) ?_; rintro v' H' ⟨rfl, rfl⟩; all_goals refine apl ?_) | (first | ((with_reducible apply kx_bs1); exact ty_el; exact ty_inf; rfl; rfl; rfl; intro bz; (refine apk ?_)) | ((with_reducible apply kx_bsN); exact ty_el; exact ty_inf; rfl; rfl; rfl; intro bz; (refine apk ?_))) | ((with_reducible apply kx_lend [(bz, .cells [.string (bs (markT k ((rows.getD k default).l.length + i)))].toArray 9 (0, 0))]); (exact atks); intro r' hl'; (with_reducible apply kx_appTwo (q := 1) (news := [.string (bs (markT k ((rows.getD k default).l.length + i)))])); exact ty_el; exact ty_inf; rfl; rfl; rfl; rfl; exact (Sl.lit (n := 1) (Lent.h1 hl') rfl (by simp [maxLen])); (exact atk); rfl; (omega); (unfold maxLen; omega); (omega); intro a' c'; (refine apk ?_)) | refine aw0 ?_ | (refine ap2 ?_ ?_ <;> try intro h) | refine aw1 ?_ | (refine abx ?_; intro bb) | (refine abz ?_; intro bz) | (refine ahv ?_; intro v' hv') | (refine aac ?_; intro ac cc) | refine aw2 ?_ | (refine ap4 ?_ ?_ <;> try intro h) | apply True.intro)
        exact ⟨_, by omega, i + 1, a', c', rfl, by omega, ⟨_, by simp only [pts, List.map_cons, List.map_nil, List.cons_append, List.nil_append]; rw [← Nat.add_assoc, mrow8]; (exact atks)⟩, asls⟩
      · obtain rfl : i = 64 := by omega
        refine sw_imp (A := FamR rows.length (fb2 rows gf) (fb1 rows) k) (B := FamR rows.length (fb2 rows (turn gf k (.slice a ((rows.getD k default).l.length + 64) c))) (fb1 rows) k) (by (exact atk)) (fun g h => by rw [← fb2_turn]; exact h) ?_
        refine sw_famShut (n := rows.length) (A := fb2 rows (turn gf k (.slice a ((rows.getD k default).l.length + 64) c))) (B := fb1 rows) (k := k) (X := Two 9 1 (.slice (rows.getD k default).a (rows.getD k default).l.length (rows.getD k default).c) (rows.getD k default).l.length (txs (mrow k (rows.getD k default).l.length)) (.slice a ((rows.getD k default).l.length + 64) c) ((rows.getD k default).l.length + 64) (txs (mrow k ((rows.getD k default).l.length + 64)))) (by (exact atk)) (by (exact atk)) hlt (fun g h => by rw [fb2_at]; exact h) ?_
        repeat' (first | ((with_reducible apply kx_stC); exact ty_size; rfl; rfl; (exact atk); rfl; (omega); (refine apk ?_)) | refine aw0 ?_ | (refine ap2 ?_ ?_ <;> try intro h) | refine aw1 ?_ | (refine abx ?_; intro bb) | (refine abz ?_; intro bz) | (refine ahv ?_; intro v' hv') | (refine aac ?_; intro ac cc) | refine aw2 ?_ | (refine ap4 ?_ ?_ <;> try intro h) | apply True.intro)
        exact ⟨_, by omega, k + 1, turnA ga k (a, c), rfl, by omega, ⟨_, by rw [gval_turn, hgf, ← gsL_set, show ((k : Int).toNat * 1) = k by simp]; (exact atks)⟩, asls⟩
    · obtain rfl : k = rows.length := by omega
      subst hgf
      have hGl := rowsG_len rows ga
      have hGm : ∀ k, k < rows.length → ((rowsG rows ga).getD k default).l = mrow k ((rows.getD k default).l.length + 64) := fun k hk => by rw [rowsG_at hk]
      rw [rowsG_gs]
      refine sw_imp (A := Fam rows.length (fb2 rows (gval rows ga)) (fb1 rows) rows.length) (B := Fam rows.length (fb3 rows (rowsG rows ga)) (fb3 rows (rowsG rows ga)) 0) (by (exact atk)) (fun g h => by
        have := Fam.turn (C := fb2 rows (gval rows ga)) h
        unfold Fam at this ⊢
        rw [famL_congr (A' := fb2 rows (gval rows ga)) (B' := fb2 rows (gval rows ga)) (k' := 0) fun j hj => by simp [fb3_of hj]]
        exact this) ?_
      generalize rowsG rows ga = gs3 at hGl hGm
      repeat' (first | refine aw0m ?_ | (refine ap2 ?_ ?_ <;> try intro h) | refine aw1m ?_ | (refine abx ?_; intro bb) | (refine abz ?_; intro bz) | (refine ahv ?_; intro v' hv') | (refine aac ?_; intro ac cc) | refine aw2 ?_ | (refine ap4 ?_ ?_ <;> try intro h) | apply True.intro)
      refine sw_loop (fun gm t H' => ∃ (k : Nat), gm = rows.length + 1 - k ∧ (k ≤ rows.length) ∧ (∃ G, Takes [RowC 24 1 (.slice (some ⟨bm, 0, none⟩) rows.length rows.length) rows.length (gs3.flatMap encS), Fam rows.length (fb3 rows gs3) (fb3 rows gs3) 0] H' G) ∧ Sls t 193 [(0, v), (5, .slice (some ⟨bm, 0, none⟩) rows.length rows.length), (9, .int .i64 k)]) _ ⟨0, rfl, Nat.zero_le _, ⟨[], atks⟩, asls⟩ ?_
      rintro gm t H' ⟨k, rfl, hk, ⟨G, hp⟩, hs'⟩
      revert t; refine sls_all ?_; iterate 190 intro uu'
      refine sw_takeG hp ?_; clear hp
      by_cases hlt : k < rows.length
      · have hmem : rows.getD k default ∈ rows := by simp [hlt]
        have hl1 := hl _ hmem
        have hx := hGm k hlt
        have hxl : (gs3.getD k default).l.length = (rows.getD k default).l.length + 64 := by rw [hx, mrow_len]
        have hm0 := mrow_len k (rows.getD k default).l.length
        refine sw_lendC (A := Fam rows.length (fb3 rows gs3) (fb3 rows gs3) 0) (by (exact atk)) fun r1 g1 hr1 hg1 hA1 => ?_
        refine sw_lendC (A := RowC 24 1 (.slice (some ⟨bm, 0, none⟩) rows.length rows.length) rows.length (gs3.flatMap encS)) (by (exact atk)) fun r2 g2 hr2 hg2 hA2 => ?_
        obtain ⟨g3, hg3, hA3⟩ := Fam.get hlt hA1
        have hs1 : Els r2 1 encTx (.slice (gs3.getD k default).a (gs3.getD k default).l.length (gs3.getD k default).c) (gs3.getD k default).l := ⟨fun _ => rfl, (hA3.slu (hg3.trans hg1)).mono hr2⟩
        have hs0 : Els r2 1 encTx (.slice (rows.getD k default).a (rows.getD k default).l.length (rows.getD k default).c) (mrow k (rows.getD k default).l.length) := ⟨fun _ => rfl, by rw [hm0]; exact (hA3.slv (hg3.trans hg1)).mono hr2⟩
        have hs2 : Els r2 1 encS (.slice (some ⟨bm, 0, none⟩) rows.length rows.length) gs3 := ⟨fun _ => rfl, by rw [hGl]; exact hA2.sl hg2⟩
        have hv2 := (hv.mono hr1).mono hr2
        clear hA1 hA2 hA3
        repeat' (first | refine aw0m ?_ | (refine ap2 ?_ ?_ <;> try intro h) | refine aw1m ?_ | (refine abx ?_; intro bb) | (refine abz ?_; intro bz) | (refine ahv ?_; intro v' hv') | (refine aac ?_; intro ac cc) | refine aw2 ?_ | (refine ap4 ?_ ?_ <;> try intro h) | apply True.intro)
        refine sw_loop (fun gm t H' => ∃ i : Nat, gm = (rows.getD k default).l.length + 65 - i ∧ (i ≤ (rows.getD k default).l.length + 64) ∧ (∃ G, Takes [] H' G) ∧ Sls t 193 [(0, v), (5, .slice (some ⟨bm, 0, none⟩) rows.length rows.length), (9, .int .i64 k), (10, .int .i64 i)]) _ ⟨0, rfl, Nat.zero_le _, ⟨[], atks⟩, asls⟩ ?_
        rintro gm t H' ⟨i, rfl, hi, ⟨G, hp⟩, hs'⟩
        revert t; refine sls_all ?_; iterate 189 intro uu'
        refine sw_takeG hp ?_; clear hp
        by_cases hi2 : i < (rows.getD k default).l.length + 64
        · have hge : (gs3.getD k default).l.getD i default = markT k i := by rw [hx]; exact mrow_at hi2
          by_cases hi3 : i < (rows.getD k default).l.length
          · have hge0 : (mrow k (rows.getD k default).l.length).getD i default = markT k i := mrow_at hi3
            repeat' (first | (first | ((with_reducible apply sw_draw (id := 7) 8 [(0, true), (1, true), (2, true), (3, true), (4, true), (5, true), (6, true), (7, false)] [(8, false), (9, false)] []); kernel_rfl; (exact atks); kernel_rfl; intro r' hl') | ((with_reducible apply sw_draw (id := 24) 35 [(0, true), (1, true), (2, true), (3, true), (4, true), (5, true), (6, true), (7, true), (8, true), (9, false), (10, true), (11, true), (12, true), (13, true), (14, true), (15, true), (16, true), (17, true), (18, true), (19, true), (20, true), (21, true), (22, true), (23, true), (24, true), (25, true), (26, true), (27, true), (28, true), (29, true), (30, false), (31, true), (32, true), (33, true), (34, true)] [] []); kernel_rfl; (exact atks); kernel_rfl; intro r' hl') | ((with_reducible apply sw_draw (id := 41) 26 [(0, true), (1, true), (2, true), (3, true), (4, true), (5, true), (6, true), (7, true), (8, true), (9, false), (10, true), (11, true), (12, true), (13, true), (14, true), (15, true), (16, true), (17, true), (18, true), (19, true), (20, true), (21, true), (22, false), (23, true), (24, true), (25, true)] [] []); kernel_rfl; (exact atks); kernel_rfl; intro r' hl')) | (refine acl Tryz.func89 ?_; refine acr (markText_any _ k i) ?_; rintro v' H' ⟨rfl, rfl⟩; all_goals refine apl ?_) | (exfalso; first | contradiction | omega) | refine aw0 ?_ | (refine ap2 ?_ ?_ <;> try intro h) | refine aw1 ?_ | (refine abx ?_; intro bb) | (refine abz ?_; intro bz) | (refine ahv ?_; intro v' hv') | (refine aac ?_; intro ac cc) | refine aw2 ?_ | (refine ap4 ?_ ?_ <;> try intro h) | apply True.intro)
            exact ⟨_, by omega, i + 1, rfl, by omega, ⟨_, atks⟩, asls⟩
          · repeat' (first | (first | ((with_reducible apply sw_draw (id := 7) 8 [(0, true), (1, true), (2, true), (3, true), (4, true), (5, true), (6, true), (7, false)] [(8, false), (9, false)] []); kernel_rfl; (exact atks); kernel_rfl; intro r' hl') | ((with_reducible apply sw_draw (id := 24) 35 [(0, true), (1, true), (2, true), (3, true), (4, true), (5, true), (6, true), (7, true), (8, true), (9, false), (10, true), (11, true), (12, true), (13, true), (14, true), (15, true), (16, true), (17, true), (18, true), (19, true), (20, true), (21, true), (22, true), (23, true), (24, true), (25, true), (26, true), (27, true), (28, true), (29, true), (30, false), (31, true), (32, true), (33, true), (34, true)] [] []); kernel_rfl; (exact atks); kernel_rfl; intro r' hl') | ((with_reducible apply sw_draw (id := 41) 26 [(0, true), (1, true), (2, true), (3, true), (4, true), (5, true), (6, true), (7, true), (8, true), (9, false), (10, true), (11, true), (12, true), (13, true), (14, true), (15, true), (16, true), (17, true), (18, true), (19, true), (20, true), (21, true), (22, false), (23, true), (24, true), (25, true)] [] []); kernel_rfl; (exact atks); kernel_rfl; intro r' hl')) | (refine acl Tryz.func89 ?_; refine acr (markText_any _ k i) ?_; rintro v' H' ⟨rfl, rfl⟩; all_goals refine apl ?_) | (exfalso; first | contradiction | omega) | refine aw0 ?_ | (refine ap2 ?_ ?_ <;> try intro h) | refine aw1 ?_ | (refine abx ?_; intro bb) | (refine abz ?_; intro bz) | (refine ahv ?_; intro v' hv') | (refine aac ?_; intro ac cc) | refine aw2 ?_ | (refine ap4 ?_ ?_ <;> try intro h) | apply True.intro)
            exact ⟨_, by omega, i + 1, rfl, by omega, ⟨_, atks⟩, asls⟩
        · repeat' (first | refine aw0m ?_ | (refine ap2 ?_ ?_ <;> try intro h) | refine aw1m ?_ | (refine abx ?_; intro bb) | (refine abz ?_; intro bz) | (refine ahv ?_; intro v' hv') | (refine aac ?_; intro ac cc) | refine aw2 ?_ | (refine ap4 ?_ ?_ <;> try intro h) | apply True.intro)
          exact ⟨_, by omega, k + 1, rfl, by omega, ⟨_, atks⟩, asls⟩
      · obtain rfl : k = rows.length := by omega
        refine sw_imp (A := Fam rows.length (fb3 rows gs3) (fb3 rows gs3) 0) (B := Fam rows.length (fb4 rows (gval rows fun _ => (none, 0))) (fb3 rows gs3) 0) (by (exact atk)) (fun g h => by unfold Fam at h ⊢; rw [famL_congr (A' := fb3 rows gs3) (B' := fb3 rows gs3) (k' := 0) fun j _ => by simp]; exact h) ?_
        rw [← gsM_zero (gval rows fun _ => (none, 0)), hGl]
        repeat' (first | refine aw0m ?_ | (refine ap2 ?_ ?_ <;> try intro h) | refine aw1m ?_ | (refine abx ?_; intro bb) | (refine abz ?_; intro bz) | (refine ahv ?_; intro v' hv') | (refine aac ?_; intro ac cc) | refine aw2 ?_ | (refine ap4 ?_ ?_ <;> try intro h) | apply True.intro)
        refine sw_loop (fun gm t H' => ∃ (k : Nat) (gb : Nat → Option Addr × Nat), gm = rows.length + 1 - k ∧ (k ≤ rows.length) ∧ (∃ G, Takes [RowC 24 1 (.slice (some ⟨bm, 0, none⟩) rows.length rows.length) rows.length (gsM rows.length k (gval rows gb) (oldV gs3)), Fam rows.length (fb4 rows (gval rows gb)) (fb3 rows gs3) k] H' G) ∧ Sls t 193 [(0, v), (5, .slice (some ⟨bm, 0, none⟩) rows.length rows.length), (11, .int .i64 k)]) _ ⟨0, fun _ => (none, 0), rfl, Nat.zero_le _, ⟨[], atks⟩, asls⟩ ?_
        rintro gm t H' ⟨k, gb, rfl, hk, ⟨G, hp⟩, hs'⟩
        revert t; refine sls_all ?_; iterate 190 intro uu'
        refine sw_takeG hp ?_; clear hp
        have hgl := gsM_len rows.length k (gval rows gb) (oldV gs3)
        by_cases hlt : k < rows.length
        · refine sw_famOpen (n := rows.length) (A := fb4 rows (gval rows gb)) (B := fb3 rows gs3) (k := k) (by (exact atk)) hlt ?_
          have hmem : rows.getD k default ∈ rows := by simp [hlt]
          have hl1 := hl _ hmem
          refine sw_split (A := fb3 rows gs3 k) (B := RowC 9 1 (.slice (rows.getD k default).a (rows.getD k default).l.length (rows.getD k default).c) (rows.getD k default).l.length (txs (mrow k (rows.getD k default).l.length))) (C := fun _ => True) (by (exact atk)) (fun h hT => by obtain ⟨x, y, d, e, hR⟩ := Two.first hT; exact ⟨x, y, d, e, hR, trivial⟩) ?_
          refine sw_imp (A := RowC 9 1 (.slice (rows.getD k default).a (rows.getD k default).l.length (rows.getD k default).c) (rows.getD k default).l.length (txs (mrow k (rows.getD k default).l.length))) (B := Two 9 1 (.slice (rows.getD k default).a (rows.getD k default).l.length (rows.getD k default).c) (rows.getD k default).l.length (txs (mrow k (rows.getD k default).l.length)) (.slice (rows.getD k default).a (rows.getD k default).l.length (rows.getD k default).c) (rows.getD k default).l.length (txs (mrow k (rows.getD k default).l.length))) (by (exact atk)) (fun g h => Two.start h) ?_
          repeat' (first | ((with_reducible apply kx_makeN (n := 64)); exact ty_el; exact ty_inf; rfl; rfl; rfl; rfl; rfl; (omega); intro bq; (refine apk ?_)) | refine aw0 ?_ | (refine ap2 ?_ ?_ <;> try intro h) | refine aw1 ?_ | (refine abx ?_; intro bb) | (refine abz ?_; intro bz) | (refine ahv ?_; intro v' hv') | (refine aac ?_; intro ac cc) | refine aw2 ?_ | (refine ap4 ?_ ?_ <;> try intro h) | apply True.intro)
          first
          | rw [show (List.replicate 64 (Value.string ⟨#[]⟩)) = half (k + rows.length) 0 (List.replicate 64 ([] : Tx)) from rfl]
          | rw [show (List.replicate 64 (Value.string (bs []))) = half (k + rows.length) 0 (List.replicate 64 ([] : Tx)) from rfl]
          | refine sw_imp (A := RowC 9 1 (.slice (some ⟨bq, 0, none⟩) 64 64) 64 _) (B := RowC 9 1 (.slice (some ⟨bq, 0, none⟩) 64 64) 64 (half (k + rows.length) 0 (List.replicate 64 ([] : Tx)))) (by (exact atk)) (fun g h => h) ?_
          refine sw_loop (fun gm t H' => ∃ i : Nat, gm = 65 - i ∧ (i ≤ 64) ∧ (∃ G, Takes [RowC 9 1 (.slice (some ⟨bq, 0, none⟩) 64 64) 64 (half (k + rows.length) i (List.replicate 64 ([] : Tx))), Two 9 1 (.slice (rows.getD k default).a (rows.getD k default).l.length (rows.getD k default).c) (rows.getD k default).l.length (txs (mrow k (rows.getD k default).l.length)) (.slice (rows.getD k default).a (rows.getD k default).l.length (rows.getD k default).c) (rows.getD k default).l.length (txs (mrow k (rows.getD k default).l.length)), RowC 24 1 (.slice (some ⟨bm, 0, none⟩) rows.length rows.length) rows.length (gsM rows.length k (gval rows gb) (oldV gs3)), FamR rows.length (fb4 rows (gval rows gb)) (fb3 rows gs3) k] H' G) ∧ Sls t 193 [(0, v), (5, .slice (some ⟨bm, 0, none⟩) rows.length rows.length), (11, .int .i64 k), (12, .slice (some ⟨bq, 0, none⟩) 64 64), (13, .int .i64 i)]) _ ⟨0, rfl, Nat.zero_le _, ⟨_, by (exact atks)⟩, asls⟩ ?_
          rintro gm t H' ⟨i, rfl, hi, ⟨G, hp⟩, hs'⟩
          revert t; refine sls_all ?_; iterate 188 intro uu'
          refine sw_takeG hp ?_; clear hp
          by_cases hi2 : i < 64
          · have hlen2 := half_len (k := k + rows.length) (i := i) (l := List.replicate 64 ([] : Tx)) (by simp; omega)
            rw [List.length_replicate] at hlen2
            repeat' (first | (refine acl Tryz.func89 ?_; refine acr (by rw [show ((k : Int) + (rows.length : Nat)) = ((k + rows.length : Nat) : Int) by omega]; exact markText_any _ (k + rows.length) i) ?_; rintro v' H' ⟨rfl, rfl⟩; all_goals refine apl ?_) | ((with_reducible apply kx_stC); exact ty_size; rfl; rfl; (exact atk); rfl; (omega); (refine apk ?_)) | refine aw0 ?_ | (refine ap2 ?_ ?_ <;> try intro h) | refine aw1 ?_ | (refine abx ?_; intro bb) | (refine abz ?_; intro bz) | (refine ahv ?_; intro v' hv') | (refine aac ?_; intro ac cc) | refine aw2 ?_ | (refine ap4 ?_ ?_ <;> try intro h) | apply True.intro)
            exact ⟨_, by omega, i + 1, rfl, by omega, ⟨_, by rw [← half_set (k := k + rows.length) (i := i) (l := List.replicate 64 ([] : Tx)) (by simp; omega), show ((i : Int).toNat * 1) = i by simp]; (exact atks)⟩, asls⟩
          · obtain rfl : i = 64 := by omega
            rw [half64]
            repeat' (first | ((with_reducible apply kx_lendC (A := RowC 9 1 (.slice (some ⟨bq, 0, none⟩) 64 64) 64 (txs (mrow (k + rows.length) 64)))); (exact atk); intro r1 g1 hr1 hg1 hA1; (with_reducible apply kx_appTwo (q := 64) (news := txs (mrow (k + rows.length) 64))); exact ty_el; exact ty_inf; rfl; rfl; rfl; rfl; exact (hA1.sl hg1); (exact atk); exact (txs_one _); (omega); (unfold maxLen; omega); (omega); intro a' c'; (refine apk ?_)) | ((with_reducible apply swo_famShut (n := rows.length) (A0 := fb4 rows (gval rows gb)) (A := fb4 rows (turn (gval rows gb) k (.slice a' ((rows.getD k default).l.length + 64) c'))) (B := fb3 rows gs3) (k := k) (X := Two 9 1 (.slice (rows.getD k default).a (rows.getD k default).l.length (rows.getD k default).c) (rows.getD k default).l.length (txs (mrow k (rows.getD k default).l.length)) (.slice a' ((rows.getD k default).l.length + 64) c') ((rows.getD k default).l.length + 64) (txs (mrow k (rows.getD k default).l.length) ++ txs (mrow (k + rows.length) 64)))); (exact atk); (exact atk); exact hlt; exact fb4_turn; (intro g h; rw [fb4_at]; exact h)) | ((with_reducible apply kx_stC); exact ty_size; rfl; rfl; (exact atk); rfl; (omega); (refine apk ?_)) | refine aw0 ?_ | (refine ap2 ?_ ?_ <;> try intro h) | refine aw1 ?_ | (refine abx ?_; intro bb) | (refine abz ?_; intro bz) | (refine ahv ?_; intro v' hv') | (refine aac ?_; intro ac cc) | refine aw2 ?_ | (refine ap4 ?_ ?_ <;> try intro h) | apply True.intro)
            exact ⟨_, by omega, k + 1, turnA gb k (a', c'), rfl, by omega, ⟨_, by rw [gval_turn, ← gsM_set, show ((k : Int).toNat * 1) = k by simp]; (exact atks)⟩, asls⟩
        · obtain rfl : k = rows.length := by omega
          have hGl5 := rowsG5_len rows gb
          have hGm5 : ∀ k, k < rows.length → ((rowsG5 rows gb).getD k default).l = mrow5 rows.length k (rows.getD k default).l.length := fun k hk => by rw [rowsG5_at hk]
          rw [rowsG5_gs]
          refine sw_imp (A := Fam rows.length (fb4 rows (gval rows gb)) (fb3 rows gs3) rows.length) (B := Fam rows.length (fb3 rows (rowsG5 rows gb)) (fb3 rows (rowsG5 rows gb)) 0) (by (exact atk)) (fun g h => by
            have := Fam.turn (C := fb4 rows (gval rows gb)) h
            unfold Fam at this ⊢
            rw [famL_congr (A' := fb4 rows (gval rows gb)) (B' := fb4 rows (gval rows gb)) (k' := 0) fun j hj => by simp [fb3_of5 hj]]
            exact this) ?_
          generalize rowsG5 rows gb = gs5 at hGl5 hGm5
          repeat' (first | refine aw0m ?_ | (refine ap2 ?_ ?_ <;> try intro h) | refine aw1m ?_ | (refine abx ?_; intro bb) | (refine abz ?_; intro bz) | (refine ahv ?_; intro v' hv') | (refine aac ?_; intro ac cc) | refine aw2 ?_ | (refine ap4 ?_ ?_ <;> try intro h) | apply True.intro)
          refine sw_loop (fun gm t H' => ∃ (k : Nat), gm = rows.length + 1 - k ∧ (k ≤ rows.length) ∧ (∃ G, Takes [RowC 24 1 (.slice (some ⟨bm, 0, none⟩) rows.length rows.length) rows.length (gs5.flatMap encS), Fam rows.length (fb3 rows gs5) (fb3 rows gs5) 0] H' G) ∧ Sls t 193 [(0, v), (5, .slice (some ⟨bm, 0, none⟩) rows.length rows.length), (14, .int .i64 k)]) _ ⟨0, rfl, Nat.zero_le _, ⟨[], atks⟩, asls⟩ ?_
          rintro gm t H' ⟨k, rfl, hk, ⟨G, hp⟩, hs'⟩
          revert t; refine sls_all ?_; iterate 190 intro uu'
          refine sw_takeG hp ?_; clear hp
          by_cases hlt : k < rows.length
          · have hmem : rows.getD k default ∈ rows := by simp [hlt]
            have hl1 := hl _ hmem
            have hx := hGm5 k hlt
            have hxl : (gs5.getD k default).l.length = (rows.getD k default).l.length + 64 := by rw [hx, mrow5_len]
            have hm0 := mrow_len k (rows.getD k default).l.length
            refine sw_lendC (A := Fam rows.length (fb3 rows gs5) (fb3 rows gs5) 0) (by (exact atk)) fun r1 g1 hr1 hg1 hA1 => ?_
            refine sw_lendC (A := RowC 24 1 (.slice (some ⟨bm, 0, none⟩) rows.length rows.length) rows.length (gs5.flatMap encS)) (by (exact atk)) fun r2 g2 hr2 hg2 hA2 => ?_
            obtain ⟨g3, hg3, hA3⟩ := Fam.get hlt hA1
            have hs1 : Els r2 1 encTx (.slice (gs5.getD k default).a (gs5.getD k default).l.length (gs5.getD k default).c) (gs5.getD k default).l := ⟨fun _ => rfl, (hA3.slu (hg3.trans hg1)).mono hr2⟩
            have hs0 : Els r2 1 encTx (.slice (rows.getD k default).a (rows.getD k default).l.length (rows.getD k default).c) (mrow k (rows.getD k default).l.length) := ⟨fun _ => rfl, by rw [hm0]; exact (hA3.slv (hg3.trans hg1)).mono hr2⟩
            have hs2 : Els r2 1 encS (.slice (some ⟨bm, 0, none⟩) rows.length rows.length) gs5 := ⟨fun _ => rfl, by rw [hGl5]; exact hA2.sl hg2⟩
            have hv2 := (hv.mono hr1).mono hr2
            clear hA1 hA2 hA3
            repeat' (first | refine aw0m ?_ | (refine ap2 ?_ ?_ <;> try intro h) | refine aw1m ?_ | (refine abx ?_; intro bb) | (refine abz ?_; intro bz) | (refine ahv ?_; intro v' hv') | (refine aac ?_; intro ac cc) | refine aw2 ?_ | (refine ap4 ?_ ?_ <;> try intro h) | apply True.intro)
            refine sw_loop (fun gm t H' => ∃ i : Nat, gm = (rows.getD k default).l.length + 1 - i ∧ (i ≤ (rows.getD k default).l.length) ∧ (∃ G, Takes [] H' G) ∧ Sls t 193 [(0, v), (5, .slice (some ⟨bm, 0, none⟩) rows.length rows.length), (14, .int .i64 k), (15, .int .i64 i)]) _ ⟨0, rfl, Nat.zero_le _, ⟨[], atks⟩, asls⟩ ?_
            rintro gm t H' ⟨i, rfl, hi, ⟨G, hp⟩, hs'⟩
            revert t; refine sls_all ?_; iterate 189 intro uu'
            refine sw_takeG hp ?_; clear hp
            by_cases hi3 : i < (rows.getD k default).l.length
            · have hge : (gs5.getD k default).l.getD i default = markT k i := by rw [hx]; exact mrow5_at hi3
              have hge0 : (mrow k (rows.getD k default).l.length).getD i default = markT k i := mrow_at hi3
              repeat' (first | (first | ((with_reducible apply sw_draw (id := 7) 8 [(0, true), (1, true), (2, true), (3, true), (4, true), (5, true), (6, true), (7, false)] [(8, false), (9, false)] []); kernel_rfl; (exact atks); kernel_rfl; intro r' hl') | ((with_reducible apply sw_draw (id := 24) 35 [(0, true), (1, true), (2, true), (3, true), (4, true), (5, true), (6, true), (7, true), (8, true), (9, false), (10, true), (11, true), (12, true), (13, true), (14, true), (15, true), (16, true), (17, true), (18, true), (19, true), (20, true), (21, true), (22, true), (23, true), (24, true), (25, true), (26, true), (27, true), (28, true), (29, true), (30, false), (31, true), (32, true), (33, true), (34, true)] [] []); kernel_rfl; (exact atks); kernel_rfl; intro r' hl') | ((with_reducible apply sw_draw (id := 41) 26 [(0, true), (1, true), (2, true), (3, true), (4, true), (5, true), (6, true), (7, true), (8, true), (9, false), (10, true), (11, true), (12, true), (13, true), (14, true), (15, true), (16, true), (17, true), (18, true), (19, true), (20, true), (21, true), (22, false), (23, true), (24, true), (25, true)] [] []); kernel_rfl; (exact atks); kernel_rfl; intro r' hl')) | (refine acl Tryz.func89 ?_; refine acr (markText_any _ k i) ?_; rintro v' H' ⟨rfl, rfl⟩; all_goals refine apl ?_) | (exfalso; first | contradiction | omega) | refine aw0 ?_ | (refine ap2 ?_ ?_ <;> try intro h) | refine aw1 ?_ | (refine abx ?_; intro bb) | (refine abz ?_; intro bz) | (refine ahv ?_; intro v' hv') | (refine aac ?_; intro ac cc) | refine aw2 ?_ | (refine ap4 ?_ ?_ <;> try intro h) | apply True.intro)
              exact ⟨_, by omega, i + 1, rfl, by omega, ⟨_, atks⟩, asls⟩
            · repeat' (first | refine aw0m ?_ | (refine ap2 ?_ ?_ <;> try intro h) | refine aw1m ?_ | (refine abx ?_; intro bb) | (refine abz ?_; intro bz) | (refine ahv ?_; intro v' hv') | (refine aac ?_; intro ac cc) | refine aw2 ?_ | (refine ap4 ?_ ?_ <;> try intro h) | apply True.intro)
              exact ⟨_, by omega, k + 1, rfl, by omega, ⟨_, atks⟩, asls⟩
          · repeat' (first | refine aw0m ?_ | (refine ap2 ?_ ?_ <;> try intro h) | refine aw1m ?_ | (refine abx ?_; intro bb) | (refine abz ?_; intro bz) | (refine ahv ?_; intro v' hv') | (refine aac ?_; intro ac cc) | refine aw2 ?_ | (refine ap4 ?_ ?_ <;> try intro h) | apply True.intro)
            ((with_reducible apply fp_ret); exact res_1 rfl rfl)
            exact HR.out _ _ _ [] (by (exact atks)) ⟨rfl, rfl⟩
end Ft
end Go.Proofs.YtgodcegaffgfjaaGreatDoor
