
/- mudlarkkit.flatPostings: its contract. -/
import Derived.Test.YtkbajhiahpkgiaaGreatFb
import Derived.Test.YtkbajhiahpkgiaaGreatTw
import Derived.Test.YtkbajhiahpkgiaaGreatLo
namespace Go.Proofs.YtkbajhiahpkgiaaGreat
open Go.RowKit Sx

/-- A slice, written out. -/
structure Rowpo where
  a : Option Addr
  c : Nat
  l : List PostV
instance : Inhabited Rowpo := ⟨⟨none, 0, []⟩⟩
def encRpo (x : Rowpo) : List Value := [.slice x.a x.l.length x.c]
def mrowpo (k m : Nat) : List PostV := (List.range m).map (markPo k)
theorem mrowpo_len (k m : Nat) : (mrowpo k m).length = m := by simp [mrowpo]
theorem mrowpo_at {k m i : Nat} (h : i < m) : (mrowpo k m).getD i default = markPo k i := by simp [mrowpo, h]
theorem mrowpo_succ (k m : Nat) : mrowpo k (m + 1) = mrowpo k m ++ [markPo k m] := by simp [mrowpo, List.range_succ]
theorem mrowpo_one (k m : Nat) : ((mrowpo k m).flatMap encPo).all one? = true := by
  rw [List.all_eq_true]
  intro v hv
  obtain ⟨p, hp1, hp⟩ := List.mem_flatMap.1 hv
  obtain ⟨i, _, rfl⟩ := List.mem_map.1 hp1
  simp only [encPo, List.mem_cons, List.not_mem_nil, or_false] at hp
  rcases hp with rfl | rfl <;> rfl
/-- The cells of a row, of which those below i were written. -/
def halfpo (k i : Nat) (l : List PostV) : List Value := (mrowpo k i ++ l.drop i).flatMap encPo
theorem halfpo_len {k i : Nat} {l : List PostV} (h : i ≤ l.length) : (halfpo k i l).length = l.length * 2 := by
  unfold halfpo
  rw [flat_len (sz := 2) (fun _ => rfl), List.length_append, mrowpo_len, List.length_drop]
  omega
theorem halfpo_set {k i : Nat} {l : List PostV} (h : i < l.length) : (halfpo k i l).take (i * 2) ++ (encPo (markPo k i) ++ (halfpo k i l).drop (i * 2 + 2)) = halfpo k (i + 1) l := by
  have e : ((mrowpo k i).flatMap encPo).length = i * 2 := by rw [flat_len (sz := 2) (fun _ => rfl), mrowpo_len]
  have e1 : halfpo k i l = (mrowpo k i).flatMap encPo ++ (encPo l[i] ++ (l.drop (i + 1)).flatMap encPo) := by
    unfold halfpo
    rw [List.drop_eq_getElem_cons h, List.flatMap_append, List.flatMap_cons]
  have e2 : halfpo k (i + 1) l = (mrowpo k i).flatMap encPo ++ (encPo (markPo k i) ++ (l.drop (i + 1)).flatMap encPo) := by
    unfold halfpo
    rw [mrowpo_succ, List.append_assoc, List.flatMap_append, List.flatMap_append, List.flatMap_cons, List.flatMap_nil, List.append_nil]
  rw [e1, e2, ← e, List.take_left, List.drop_append, List.drop_eq_nil_of_le (by omega), List.nil_append, show ((mrowpo k i).flatMap encPo).length + 2 - ((mrowpo k i).flatMap encPo).length = (encPo l[i]).length by simp [encPo], List.drop_left]
theorem halfpo_end (k : Nat) (l : List PostV) : halfpo k l.length l = (mrowpo k l.length).flatMap encPo := by simp [halfpo]
theorem halfpo_start (k : Nat) (l : List PostV) : halfpo k 0 l = l.flatMap encPo := by simp [halfpo, mrowpo]
abbrev fpo2 (rows : List Rowpo) (gf : Nat → Value) (j : Nat) : Ch := Two 53 2 (.slice (rows.getD j default).a (rows.getD j default).l.length (rows.getD j default).c) (rows.getD j default).l.length ((mrowpo j (rows.getD j default).l.length).flatMap encPo) (gf j) ((rows.getD j default).l.length + 64) ((mrowpo j ((rows.getD j default).l.length + 64)).flatMap encPo)
theorem fpo2_turn {n : Nat} {rows : List Rowpo} {gf : Nat → Value} {B : Nat → Ch} {k : Nat} {g : Value} : FamR n (fpo2 rows gf) B k = FamR n (fpo2 rows (turn gf k g)) B k := by
  unfold FamR
  rw [famL_erase (A' := fpo2 rows (turn gf k g)) (B' := B) (k' := k) fun j _ hj => by
    have e : fpo2 rows (turn gf k g) j = fpo2 rows gf j := by unfold fpo2; rw [show turn gf k g j = gf j from if_neg hj]
    rw [e]]
theorem fpo2_at {rows : List Rowpo} {gf : Nat → Value} {k : Nat} {g : Value} : fpo2 rows (turn gf k g) k = Two 53 2 (.slice (rows.getD k default).a (rows.getD k default).l.length (rows.getD k default).c) (rows.getD k default).l.length ((mrowpo k (rows.getD k default).l.length).flatMap encPo) g ((rows.getD k default).l.length + 64) ((mrowpo k ((rows.getD k default).l.length + 64)).flatMap encPo) := by
  unfold fpo2; rw [show turn gf k g k = g from if_pos rfl]
def gvalpo (rows : List Rowpo) (ga : Nat → Option Addr × Nat) (j : Nat) : Value := .slice (ga j).1 ((rows.getD j default).l.length + 64) (ga j).2
theorem gvalpo_turn (rows : List Rowpo) (ga : Nat → Option Addr × Nat) (k : Nat) (a : Option Addr) (c : Nat) : gvalpo rows (turnA ga k (a, c)) = turn (gvalpo rows ga) k (.slice a ((rows.getD k default).l.length + 64) c) := by
  funext j
  by_cases h : j = k
  · subst h; simp [gvalpo, turnA, turn]
  · simp [gvalpo, turnA, turn, h]
/-- The grown rows, written out. -/
def rowsGpo (rows : List Rowpo) (ga : Nat → Option Addr × Nat) : List Rowpo := (List.range rows.length).map fun j => ⟨(ga j).1, (ga j).2, mrowpo j ((rows.getD j default).l.length + 64)⟩
theorem rowsGpo_len (rows : List Rowpo) (ga : Nat → Option Addr × Nat) : (rowsGpo rows ga).length = rows.length := by simp [rowsGpo]
theorem rowsGpo_at {rows : List Rowpo} {ga : Nat → Option Addr × Nat} {k : Nat} (h : k < rows.length) : (rowsGpo rows ga).getD k default = ⟨(ga k).1, (ga k).2, mrowpo k ((rows.getD k default).l.length + 64)⟩ := by simp [rowsGpo, h]
theorem rowsGpo_gs (rows : List Rowpo) (ga : Nat → Option Addr × Nat) : gsL rows.length rows.length (gvalpo rows ga) = (rowsGpo rows ga).flatMap encRpo := by
  unfold rowsGpo gsL
  rw [List.flatMap_map]
  rw [List.map_eq_flatMap]
  unfold List.flatMap
  congr 1
  apply List.map_congr_left
  intro j hj
  have := List.mem_range.1 hj
  simp only [encRpo, gvalpo, mrowpo_len, if_pos this]
abbrev fpo3 (rows G : List Rowpo) (j : Nat) : Ch := Two 53 2 (.slice (rows.getD j default).a (rows.getD j default).l.length (rows.getD j default).c) (rows.getD j default).l.length ((mrowpo j (rows.getD j default).l.length).flatMap encPo) (.slice (G.getD j default).a (G.getD j default).l.length (G.getD j default).c) (G.getD j default).l.length ((G.getD j default).l.flatMap encPo)
theorem fpo3_of {rows : List Rowpo} {ga : Nat → Option Addr × Nat} {j : Nat} (h : j < rows.length) : fpo2 rows (gvalpo rows ga) j = fpo3 rows (rowsGpo rows ga) j := by
  unfold fpo2 fpo3
  rw [rowsGpo_at h]
  simp only [gvalpo, mrowpo_len]
def oldVpo (G : List Rowpo) (j : Nat) : Value := .slice (G.getD j default).a (G.getD j default).l.length (G.getD j default).c
theorem gsMpo_zero {G : List Rowpo} (f : Nat → Value) : gsM G.length 0 f (oldVpo G) = G.flatMap encRpo := by
  apply List.ext_getElem?
  intro j
  have e := flat_len (sz := 1) (enc := encRpo) (fun _ => rfl) G
  by_cases h : j < G.length
  · have h1 := flat_at (sz := 1) (enc := encRpo) (fun _ => rfl) G j h
    rw [Nat.mul_one] at h1
    have h2 : (G.flatMap encRpo)[j]? = (encRpo G[j])[0]? := by rw [← h1]; simp []
    rw [h2]
    simp [gsM, oldVpo, h, encRpo]
  · rw [List.getElem?_eq_none (by rw [gsM_len]; omega), List.getElem?_eq_none (by omega)]
/-- What a row reads as, grown by many at once. -/
def mrowpo5 (n j m : Nat) : List PostV := mrowpo j m ++ mrowpo (j + n) 64
theorem mrowpo5_len (n j m : Nat) : (mrowpo5 n j m).length = m + 64 := by simp [mrowpo5, mrowpo]
theorem mrowpo5_at {n j m i : Nat} (h : i < m) : (mrowpo5 n j m).getD i default = markPo j i := by
  have := mrowpo_at (k := j) h
  unfold mrowpo5
  rw [List.getD_eq_getElem?_getD, List.getElem?_append_left (by rw [mrowpo_len]; exact h), ← List.getD_eq_getElem?_getD]
  exact this
abbrev fpo4 (rows : List Rowpo) (gf : Nat → Value) (j : Nat) : Ch := Two 53 2 (.slice (rows.getD j default).a (rows.getD j default).l.length (rows.getD j default).c) (rows.getD j default).l.length ((mrowpo j (rows.getD j default).l.length).flatMap encPo) (gf j) ((rows.getD j default).l.length + 64) ((mrowpo5 rows.length j (rows.getD j default).l.length).flatMap encPo)
theorem fpo4_turn {n : Nat} {rows : List Rowpo} {gf : Nat → Value} {B : Nat → Ch} {k : Nat} {g : Value} : FamR n (fpo4 rows gf) B k = FamR n (fpo4 rows (turn gf k g)) B k := by
  unfold FamR
  rw [famL_erase (A' := fpo4 rows (turn gf k g)) (B' := B) (k' := k) fun j _ hj => by
    have e : fpo4 rows (turn gf k g) j = fpo4 rows gf j := by unfold fpo4; rw [show turn gf k g j = gf j from if_neg hj]
    rw [e]]
theorem fpo4_at {rows : List Rowpo} {gf : Nat → Value} {k : Nat} {g : Value} : fpo4 rows (turn gf k g) k = Two 53 2 (.slice (rows.getD k default).a (rows.getD k default).l.length (rows.getD k default).c) (rows.getD k default).l.length ((mrowpo k (rows.getD k default).l.length).flatMap encPo) g ((rows.getD k default).l.length + 64) ((mrowpo k (rows.getD k default).l.length).flatMap encPo ++ (mrowpo (k + rows.length) 64).flatMap encPo) := by
  unfold fpo4; rw [show turn gf k g k = g from if_pos rfl, mrowpo5, List.flatMap_append]
theorem halfpo64 (k : Nat) (z : PostV) : halfpo k 64 (List.replicate 64 z) = (mrowpo k 64).flatMap encPo := by
  have := halfpo_end k (List.replicate 64 z)
  rwa [List.length_replicate] at this
def rowsGpo5 (rows : List Rowpo) (ga : Nat → Option Addr × Nat) : List Rowpo := (List.range rows.length).map fun j => ⟨(ga j).1, (ga j).2, mrowpo5 rows.length j (rows.getD j default).l.length⟩
theorem rowsGpo5_len (rows : List Rowpo) (ga : Nat → Option Addr × Nat) : (rowsGpo5 rows ga).length = rows.length := by simp [rowsGpo5]
theorem rowsGpo5_at {rows : List Rowpo} {ga : Nat → Option Addr × Nat} {k : Nat} (h : k < rows.length) : (rowsGpo5 rows ga).getD k default = ⟨(ga k).1, (ga k).2, mrowpo5 rows.length k (rows.getD k default).l.length⟩ := by simp [rowsGpo5, h]
theorem rowsGpo5_gs (rows : List Rowpo) (ga : Nat → Option Addr × Nat) (g : Nat → Value) : gsM rows.length rows.length (gvalpo rows ga) g = (rowsGpo5 rows ga).flatMap encRpo := by
  unfold rowsGpo5 gsM
  rw [List.flatMap_map]
  rw [List.map_eq_flatMap]
  unfold List.flatMap
  congr 1
  apply List.map_congr_left
  intro j hj
  have := List.mem_range.1 hj
  simp only [encRpo, gvalpo, mrowpo5_len, if_pos this]
theorem fpo3_of5 {rows : List Rowpo} {ga : Nat → Option Addr × Nat} {j : Nat} (h : j < rows.length) : fpo4 rows (gvalpo rows ga) j = fpo3 rows (rowsGpo5 rows ga) j := by
  unfold fpo4 fpo3
  rw [rowsGpo5_at h]
  simp only [gvalpo, mrowpo5_len]
theorem mrowpo8 (k m : Nat) : (mrowpo k (m + 1)).flatMap encPo = (mrowpo k m).flatMap encPo ++ [.string (bs (markT k m)), .slice none 0 0] := by rw [mrowpo_succ, List.flatMap_append]; rfl
abbrev fpo0 (rows : List Rowpo) (j : Nat) : Ch := RowC 53 2 (.slice (rows.getD j default).a (rows.getD j default).l.length (rows.getD j default).c) (rows.getD j default).l.length (halfpo j 0 (rows.getD j default).l)
abbrev fpo1 (rows : List Rowpo) (j : Nat) : Ch := RowC 53 2 (.slice (rows.getD j default).a (rows.getD j default).l.length (rows.getD j default).c) (rows.getD j default).l.length (halfpo j (rows.getD j default).l.length (rows.getD j default).l)
theorem zerospo (k : Nat) : (List.replicate 64 [.string (bs []), .slice none 0 0]).flatten = halfpo k 0 (List.replicate 64 (⟨[], .slice none 0 0, []⟩ : PostV)) := by rw [halfpo_start]; rfl
set_option maxRecDepth 10000 in
set_option maxHeartbeats 4000000 in
theorem flatPostings_any (r : Hp) (v : Value) (rows : List Rowpo) (hv : Els r 1 encRpo v rows) (hn : rows.length ≤ 1000000) (hl : ∀ x ∈ rows, x.l.length ≤ 100000000) : Tri Tryz.prog r 87 [v] [Fam rows.length (fpo1 rows) (fpo0 rows) 0] fun w H => w = .bool true ∧ H = [] := by
  refine Tri.free2 fun R HR => ?_
  refine fn_of_sw Tryz.func87 rfl _ rfl ?_; refine aen Tryz.ntmps87 ?_
  repeat' (first | refine aw0m ?_ | (refine ap2 ?_ ?_ <;> try intro h) | refine aw1m ?_ | (refine abx ?_; intro bb) | (refine abz ?_; intro bz) | (refine ahv ?_; intro v' hv') | (refine aac ?_; intro ac cc) | refine aw2 ?_ | (refine ap4 ?_ ?_ <;> try intro h) | apply True.intro)
  refine sw_loop (fun gm t H' => ∃ k : Nat, gm = rows.length + 1 - k ∧ (k ≤ rows.length) ∧ (∃ G, Takes [Fam rows.length (fpo1 rows) (fpo0 rows) k] H' G) ∧ Sls t 193 [(0, v), (3, .int .i64 k)]) _ ⟨0, rfl, Nat.zero_le _, ⟨[], atks⟩, asls⟩ ?_
  rintro gm t H' ⟨k, rfl, hk, ⟨G, hp⟩, hs'⟩
  revert t; refine sls_all ?_; iterate 191 intro uu'
  refine sw_takeG hp ?_; clear hp
  by_cases hlt : k < rows.length
  · refine sw_famOpen (n := rows.length) (A := fpo1 rows) (B := fpo0 rows) (k := k) (by (exact atk)) hlt ?_
    have hmem : rows.getD k default ∈ rows := by simp [hlt]
    have hl1 := hl _ hmem
    repeat' (first | refine aw0m ?_ | (refine ap2 ?_ ?_ <;> try intro h) | refine aw1m ?_ | (refine abx ?_; intro bb) | (refine abz ?_; intro bz) | (refine ahv ?_; intro v' hv') | (refine aac ?_; intro ac cc) | refine aw2 ?_ | (refine ap4 ?_ ?_ <;> try intro h) | apply True.intro)
    refine sw_loop (fun gm t H' => ∃ i : Nat, gm = (rows.getD k default).l.length + 1 - i ∧ (i ≤ (rows.getD k default).l.length) ∧ (∃ G, Takes [RowC 53 2 (.slice (rows.getD k default).a (rows.getD k default).l.length (rows.getD k default).c) (rows.getD k default).l.length (halfpo k i (rows.getD k default).l), FamR rows.length (fpo1 rows) (fpo0 rows) k] H' G) ∧ Sls t 193 [(0, v), (3, .int .i64 k), (4, .int .i64 i)]) _ ⟨0, rfl, Nat.zero_le _, ⟨[], atks⟩, asls⟩ ?_
    rintro gm t H' ⟨i, rfl, hi, ⟨G, hp⟩, hs'⟩
    revert t; refine sls_all ?_; iterate 190 intro uu'
    refine sw_takeG hp ?_; clear hp
    by_cases hi2 : i < (rows.getD k default).l.length
    · have hlen2 := halfpo_len (k := k) (Nat.le_of_lt hi2)
      repeat' (first | refine aw0m ?_ | (refine ap2 ?_ ?_ <;> try intro h) | (first | ((with_reducible apply sw_draw (id := 7) 8 [(0, true), (1, true), (2, true), (3, true), (4, true), (5, true), (6, true), (7, false)] [(8, false), (9, false)] []); kernel_rfl; (exact atks); kernel_rfl; intro r' hl') | ((with_reducible apply sw_draw (id := 24) 35 [(0, true), (1, true), (2, true), (3, true), (4, true), (5, true), (6, true), (7, true), (8, true), (9, false), (10, false), (11, true), (12, true), (13, true), (14, true), (15, true), (16, true), (17, true), (18, true), (19, true), (20, true), (21, true), (22, true), (23, true), (24, true), (25, true), (26, true), (27, true), (28, true), (29, true), (30, false), (31, false), (32, true), (33, true), (34, true)] [] []); kernel_rfl; (exact atks); kernel_rfl; intro r' hl') | ((with_reducible apply sw_draw (id := 41) 26 [(0, true), (1, true), (2, true), (3, true), (4, true), (5, true), (6, true), (7, true), (8, true), (9, false), (10, false), (11, true), (12, true), (13, true), (14, true), (15, true), (16, true), (17, true), (18, true), (19, true), (20, true), (21, true), (22, false), (23, false), (24, true), (25, true)] [] []); kernel_rfl; (exact atks); kernel_rfl; intro r' hl')) | (refine acl Tryz.func57 ?_; refine acr (markPosting_any _ k i) ?_; rintro v' H' ⟨rfl, rfl⟩; all_goals refine apl ?_) | ((with_reducible apply kx_stCN); exact ty_size; rfl; rfl; rfl; (exact atk); rfl; rfl; (omega); (refine apk ?_)) | refine aw1m ?_ | (refine abx ?_; intro bb) | (refine abz ?_; intro bz) | (refine ahv ?_; intro v' hv') | (refine aac ?_; intro ac cc) | refine aw2 ?_ | (refine ap4 ?_ ?_ <;> try intro h) | apply True.intro)
      exact ⟨_, by omega, i + 1, rfl, by omega, ⟨_, by rw [← halfpo_set hi2]; (exact atks)⟩, asls⟩
    · obtain rfl : i = (rows.getD k default).l.length := by omega
      refine sw_famShut (n := rows.length) (A := fpo1 rows) (B := fpo0 rows) (k := k) (X := fpo1 rows k) (by (exact atk)) (by (exact atk)) hlt (fun g h => h) ?_
      repeat' (first | refine aw0m ?_ | (refine ap2 ?_ ?_ <;> try intro h) | refine aw1m ?_ | (refine abx ?_; intro bb) | (refine abz ?_; intro bz) | (refine ahv ?_; intro v' hv') | (refine aac ?_; intro ac cc) | refine aw2 ?_ | (refine ap4 ?_ ?_ <;> try intro h) | apply True.intro)
      exact ⟨_, by omega, k + 1, rfl, by omega, ⟨_, atks⟩, asls⟩
  · obtain rfl : k = rows.length := by omega
    refine sw_imp (A := Fam rows.length (fpo1 rows) (fpo0 rows) rows.length) (B := Fam rows.length (fpo2 rows (gvalpo rows fun _ => (none, 0))) (fpo1 rows) 0) (by (exact atk)) (fun g h => Fam.turn h) ?_
    repeat' (first | ((with_reducible apply kx_makeN (n := rows.length)); exact ty_el; exact ty_inf; rfl; rfl; rfl; rfl; rfl; (omega); intro bm; (refine apk ?_)) | refine aw0 ?_ | (refine ap2 ?_ ?_ <;> try intro h) | refine aw1 ?_ | (refine abx ?_; intro bb) | (refine abz ?_; intro bz) | (refine ahv ?_; intro v' hv') | (refine aac ?_; intro ac cc) | refine aw2 ?_ | (refine ap4 ?_ ?_ <;> try intro h) | apply True.intro)
    rw [← gsL_zero rows.length (gvalpo rows fun _ => (none, 0))]
    refine sw_loop (fun gm t H' => ∃ (k : Nat) (ga : Nat → Option Addr × Nat), gm = rows.length + 1 - k ∧ (k ≤ rows.length) ∧ (∃ G, Takes [RowC 26 1 (.slice (some ⟨bm, 0, none⟩) rows.length rows.length) rows.length (gsL rows.length k (gvalpo rows ga)), Fam rows.length (fpo2 rows (gvalpo rows ga)) (fpo1 rows) k] H' G) ∧ Sls t 193 [(0, v), (5, .slice (some ⟨bm, 0, none⟩) rows.length rows.length), (6, .int .i64 k)]) _ ⟨0, fun _ => (none, 0), rfl, Nat.zero_le _, ⟨[], atks⟩, asls⟩ ?_
    rintro gm t H' ⟨k, ga, rfl, hk, ⟨G, hp⟩, hs'⟩
    revert t; refine sls_all ?_; iterate 190 intro uu'
    refine sw_takeG hp ?_; clear hp
    generalize hgf : gvalpo rows ga = gf
    have hgl := gsL_len rows.length k gf
    by_cases hlt : k < rows.length
    · refine sw_famOpen (n := rows.length) (A := fpo2 rows gf) (B := fpo1 rows) (k := k) (by (exact atk)) hlt ?_
      have hmem : rows.getD k default ∈ rows := by simp [hlt]
      have hl1 := hl _ hmem
      refine sw_imp (A := fpo1 rows k) (B := Two 53 2 (.slice (rows.getD k default).a (rows.getD k default).l.length (rows.getD k default).c) (rows.getD k default).l.length (((mrowpo k (rows.getD k default).l.length).flatMap encPo)) (.slice (rows.getD k default).a (rows.getD k default).l.length (rows.getD k default).c) (rows.getD k default).l.length (((mrowpo k (rows.getD k default).l.length).flatMap encPo))) (by (exact atk)) (fun g h => by rw [← halfpo_end]; exact Two.start h) ?_
      repeat' (first | refine aw0m ?_ | (refine ap2 ?_ ?_ <;> try intro h) | refine aw1m ?_ | (refine abx ?_; intro bb) | (refine abz ?_; intro bz) | (refine ahv ?_; intro v' hv') | (refine aac ?_; intro ac cc) | refine aw2 ?_ | (refine ap4 ?_ ?_ <;> try intro h) | apply True.intro)
      refine sw_loop (fun gm t H' => ∃ (i : Nat) (a : Option Addr) (c : Nat), gm = 65 - i ∧ (i ≤ 64) ∧ (∃ G, Takes [Two 53 2 (.slice (rows.getD k default).a (rows.getD k default).l.length (rows.getD k default).c) (rows.getD k default).l.length (((mrowpo k (rows.getD k default).l.length).flatMap encPo)) (.slice a ((rows.getD k default).l.length + i) c) ((rows.getD k default).l.length + i) (((mrowpo k ((rows.getD k default).l.length + i)).flatMap encPo)), RowC 26 1 (.slice (some ⟨bm, 0, none⟩) rows.length rows.length) rows.length (gsL rows.length k gf), FamR rows.length (fpo2 rows gf) (fpo1 rows) k] H' G) ∧ Sls t 193 [(0, v), (5, .slice (some ⟨bm, 0, none⟩) rows.length rows.length), (6, .int .i64 k), (7, .slice a ((rows.getD k default).l.length + i) c), (8, .int .i64 i)]) _ ⟨0, _, _, rfl, Nat.zero_le _, ⟨[], atks⟩, asls⟩ ?_
      rintro gm t H' ⟨i, a, c, rfl, hi, ⟨G, hp⟩, hs'⟩
      revert t; refine sls_all ?_; iterate 188 intro uu'
      refine sw_takeG hp ?_; clear hp
      by_cases hi2 : i < 64
      · repeat' (first | (refine acl Tryz.func57 ?_; refine acr (by rw [show (((rows.getD k default).l.length : Int) + (i : Nat)) = (((rows.getD k default).l.length + i : Nat) : Int) by omega]; exact markPosting_any _ k ((rows.getD k default).l.length + i)) ?_; rintro v' H' ⟨rfl, rfl⟩; all_goals refine apl ?_) | (first | ((with_reducible apply kx_bs1); exact ty_el; exact ty_inf; rfl; rfl; rfl; intro bz; (refine apk ?_)) | ((with_reducible apply kx_bsN); exact ty_el; exact ty_inf; rfl; rfl; rfl; intro bz; (refine apk ?_))) | ((with_reducible apply kx_lend [(bz, .cells [.string (bs (markT k ((rows.getD k default).l.length + i))), .slice none 0 0].toArray 53 (0, 0))]); (exact atks); intro r' hl'; (with_reducible apply kx_appTwo (q := 1) (news := [.string (bs (markT k ((rows.getD k default).l.length + i))), .slice none 0 0])); exact ty_el; exact ty_inf; rfl; rfl; rfl; rfl; exact (Sl.lit (n := 1) (Lent.h1 hl') rfl (by simp [maxLen])); (exact atk); rfl; (omega); (unfold maxLen; omega); (omega); intro a' c'; (refine apk ?_)) | refine aw0 ?_ | (refine ap2 ?_ ?_ <;> try intro h) | refine aw1 ?_ | (refine abx ?_; intro bb) | (refine abz ?_; intro bz) | (refine ahv ?_; intro v' hv') | (refine aac ?_; intro ac cc) | refine aw2 ?_ | (refine ap4 ?_ ?_ <;> try intro h) | apply True.intro)
        exact ⟨_, by omega, i + 1, a', c', rfl, by omega, ⟨_, by simp only [pts, List.map_cons, List.map_nil, List.cons_append, List.nil_append]; rw [← Nat.add_assoc, mrowpo8]; (exact atks)⟩, asls⟩
      · obtain rfl : i = 64 := by omega
        refine sw_imp (A := FamR rows.length (fpo2 rows gf) (fpo1 rows) k) (B := FamR rows.length (fpo2 rows (turn gf k (.slice a ((rows.getD k default).l.length + 64) c))) (fpo1 rows) k) (by (exact atk)) (fun g h => by rw [← fpo2_turn]; exact h) ?_
        refine sw_famShut (n := rows.length) (A := fpo2 rows (turn gf k (.slice a ((rows.getD k default).l.length + 64) c))) (B := fpo1 rows) (k := k) (X := Two 53 2 (.slice (rows.getD k default).a (rows.getD k default).l.length (rows.getD k default).c) (rows.getD k default).l.length (((mrowpo k (rows.getD k default).l.length).flatMap encPo)) (.slice a ((rows.getD k default).l.length + 64) c) ((rows.getD k default).l.length + 64) (((mrowpo k ((rows.getD k default).l.length + 64)).flatMap encPo))) (by (exact atk)) (by (exact atk)) hlt (fun g h => by rw [fpo2_at]; exact h) ?_
        repeat' (first | ((with_reducible apply kx_stC); exact ty_size; rfl; rfl; (exact atk); rfl; (omega); (refine apk ?_)) | refine aw0 ?_ | (refine ap2 ?_ ?_ <;> try intro h) | refine aw1 ?_ | (refine abx ?_; intro bb) | (refine abz ?_; intro bz) | (refine ahv ?_; intro v' hv') | (refine aac ?_; intro ac cc) | refine aw2 ?_ | (refine ap4 ?_ ?_ <;> try intro h) | apply True.intro)
        exact ⟨_, by omega, k + 1, turnA ga k (a, c), rfl, by omega, ⟨_, by rw [gvalpo_turn, hgf, ← gsL_set, show ((k : Int).toNat * 1) = k by simp]; (exact atks)⟩, asls⟩
    · obtain rfl : k = rows.length := by omega
      subst hgf
      have hGl := rowsGpo_len rows ga
      have hGm : ∀ k, k < rows.length → ((rowsGpo rows ga).getD k default).l = mrowpo k ((rows.getD k default).l.length + 64) := fun k hk => by rw [rowsGpo_at hk]
      rw [rowsGpo_gs]
      refine sw_imp (A := Fam rows.length (fpo2 rows (gvalpo rows ga)) (fpo1 rows) rows.length) (B := Fam rows.length (fpo3 rows (rowsGpo rows ga)) (fpo3 rows (rowsGpo rows ga)) 0) (by (exact atk)) (fun g h => by
        have := Fam.turn (C := fpo2 rows (gvalpo rows ga)) h
        unfold Fam at this ⊢
        rw [famL_congr (A' := fpo2 rows (gvalpo rows ga)) (B' := fpo2 rows (gvalpo rows ga)) (k' := 0) fun j hj => by simp [fpo3_of hj]]
        exact this) ?_
      generalize rowsGpo rows ga = gs3 at hGl hGm
      repeat' (first | refine aw0m ?_ | (refine ap2 ?_ ?_ <;> try intro h) | refine aw1m ?_ | (refine abx ?_; intro bb) | (refine abz ?_; intro bz) | (refine ahv ?_; intro v' hv') | (refine aac ?_; intro ac cc) | refine aw2 ?_ | (refine ap4 ?_ ?_ <;> try intro h) | apply True.intro)
      refine sw_loop (fun gm t H' => ∃ (k : Nat), gm = rows.length + 1 - k ∧ (k ≤ rows.length) ∧ (∃ G, Takes [RowC 26 1 (.slice (some ⟨bm, 0, none⟩) rows.length rows.length) rows.length (gs3.flatMap encRpo), Fam rows.length (fpo3 rows gs3) (fpo3 rows gs3) 0] H' G) ∧ Sls t 193 [(0, v), (5, .slice (some ⟨bm, 0, none⟩) rows.length rows.length), (9, .int .i64 k)]) _ ⟨0, rfl, Nat.zero_le _, ⟨[], atks⟩, asls⟩ ?_
      rintro gm t H' ⟨k, rfl, hk, ⟨G, hp⟩, hs'⟩
      revert t; refine sls_all ?_; iterate 190 intro uu'
      refine sw_takeG hp ?_; clear hp
      by_cases hlt : k < rows.length
      · have hmem : rows.getD k default ∈ rows := by simp [hlt]
        have hl1 := hl _ hmem
        have hx := hGm k hlt
        have hxl : (gs3.getD k default).l.length = (rows.getD k default).l.length + 64 := by rw [hx, mrowpo_len]
        have hm0 := mrowpo_len k (rows.getD k default).l.length
        refine sw_lendC (A := Fam rows.length (fpo3 rows gs3) (fpo3 rows gs3) 0) (by (exact atk)) fun r1 g1 hr1 hg1 hA1 => ?_
        refine sw_lendC (A := RowC 26 1 (.slice (some ⟨bm, 0, none⟩) rows.length rows.length) rows.length (gs3.flatMap encRpo)) (by (exact atk)) fun r2 g2 hr2 hg2 hA2 => ?_
        obtain ⟨g3, hg3, hA3⟩ := Fam.get hlt hA1
        have hs1 : Els r2 2 encPo (.slice (gs3.getD k default).a (gs3.getD k default).l.length (gs3.getD k default).c) (gs3.getD k default).l := ⟨fun _ => rfl, (hA3.slu (hg3.trans hg1)).mono hr2⟩
        have hs0 : Els r2 2 encPo (.slice (rows.getD k default).a (rows.getD k default).l.length (rows.getD k default).c) (mrowpo k (rows.getD k default).l.length) := ⟨fun _ => rfl, by rw [hm0]; exact (hA3.slv (hg3.trans hg1)).mono hr2⟩
        have hs2 : Els r2 1 encRpo (.slice (some ⟨bm, 0, none⟩) rows.length rows.length) gs3 := ⟨fun _ => rfl, by rw [hGl]; exact hA2.sl hg2⟩
        have hv2 := (hv.mono hr1).mono hr2
        clear hA1 hA2 hA3
        repeat' (first | refine aw0m ?_ | (refine ap2 ?_ ?_ <;> try intro h) | refine aw1m ?_ | (refine abx ?_; intro bb) | (refine abz ?_; intro bz) | (refine ahv ?_; intro v' hv') | (refine aac ?_; intro ac cc) | refine aw2 ?_ | (refine ap4 ?_ ?_ <;> try intro h) | apply True.intro)
        refine sw_loop (fun gm t H' => ∃ i : Nat, gm = (rows.getD k default).l.length + 65 - i ∧ (i ≤ (rows.getD k default).l.length + 64) ∧ (∃ G, Takes [] H' G) ∧ Sls t 193 [(0, v), (5, .slice (some ⟨bm, 0, none⟩) rows.length rows.length), (9, .int .i64 k), (10, .int .i64 i)]) _ ⟨0, rfl, Nat.zero_le _, ⟨[], atks⟩, asls⟩ ?_
        rintro gm t H' ⟨i, rfl, hi, ⟨G, hp⟩, hs'⟩
        revert t; refine sls_all ?_; iterate 189 intro uu'
        refine sw_takeG hp ?_; clear hp
        by_cases hi2 : i < (rows.getD k default).l.length + 64
        · have hge : (gs3.getD k default).l.getD i default = markPo k i := by rw [hx]; exact mrowpo_at hi2
          by_cases hi3 : i < (rows.getD k default).l.length
          · have hge0 : (mrowpo k (rows.getD k default).l.length).getD i default = markPo k i := mrowpo_at hi3
            repeat' (first | (first | ((with_reducible apply sw_draw (id := 7) 8 [(0, true), (1, true), (2, true), (3, true), (4, true), (5, true), (6, true), (7, false)] [(8, false), (9, false)] []); kernel_rfl; (exact atks); kernel_rfl; intro r' hl') | ((with_reducible apply sw_draw (id := 24) 35 [(0, true), (1, true), (2, true), (3, true), (4, true), (5, true), (6, true), (7, true), (8, true), (9, false), (10, false), (11, true), (12, true), (13, true), (14, true), (15, true), (16, true), (17, true), (18, true), (19, true), (20, true), (21, true), (22, true), (23, true), (24, true), (25, true), (26, true), (27, true), (28, true), (29, true), (30, false), (31, false), (32, true), (33, true), (34, true)] [] []); kernel_rfl; (exact atks); kernel_rfl; intro r' hl') | ((with_reducible apply sw_draw (id := 41) 26 [(0, true), (1, true), (2, true), (3, true), (4, true), (5, true), (6, true), (7, true), (8, true), (9, false), (10, false), (11, true), (12, true), (13, true), (14, true), (15, true), (16, true), (17, true), (18, true), (19, true), (20, true), (21, true), (22, false), (23, false), (24, true), (25, true)] [] []); kernel_rfl; (exact atks); kernel_rfl; intro r' hl')) | (rw [hge]) | (rw [hge0]) | (refine acl Tryz.func38 ?_; refine acr ((samePosting_any _ (markPo k i) (markPo k i) (els_nil _) (els_nil _)).mono (R' := fun u H => u = .bool true ∧ H = []) (fun u H ⟨e1, e2⟩ => ⟨e1.trans (congrArg Value.bool (decide_eq_true rfl)), e2⟩)) ?_; rintro v' H' ⟨rfl, rfl⟩; all_goals refine apl ?_) | (refine acl Tryz.func57 ?_; refine acr (markPosting_any _ k i) ?_; rintro v' H' ⟨rfl, rfl⟩; all_goals refine apl ?_) | (exfalso; first | contradiction | omega) | refine aw0 ?_ | (refine ap2 ?_ ?_ <;> try intro h) | refine aw1 ?_ | (refine abx ?_; intro bb) | (refine abz ?_; intro bz) | (refine ahv ?_; intro v' hv') | (refine aac ?_; intro ac cc) | refine aw2 ?_ | (refine ap4 ?_ ?_ <;> try intro h) | apply True.intro)
            all_goals first | (rw [hge] at h; exact absurd rfl h) | (rw [hge0] at h; exact absurd rfl h) | exact ⟨_, by omega, i + 1, rfl, by omega, ⟨_, atks⟩, asls⟩
          · repeat' (first | (first | ((with_reducible apply sw_draw (id := 7) 8 [(0, true), (1, true), (2, true), (3, true), (4, true), (5, true), (6, true), (7, false)] [(8, false), (9, false)] []); kernel_rfl; (exact atks); kernel_rfl; intro r' hl') | ((with_reducible apply sw_draw (id := 24) 35 [(0, true), (1, true), (2, true), (3, true), (4, true), (5, true), (6, true), (7, true), (8, true), (9, false), (10, false), (11, true), (12, true), (13, true), (14, true), (15, true), (16, true), (17, true), (18, true), (19, true), (20, true), (21, true), (22, true), (23, true), (24, true), (25, true), (26, true), (27, true), (28, true), (29, true), (30, false), (31, false), (32, true), (33, true), (34, true)] [] []); kernel_rfl; (exact atks); kernel_rfl; intro r' hl') | ((with_reducible apply sw_draw (id := 41) 26 [(0, true), (1, true), (2, true), (3, true), (4, true), (5, true), (6, true), (7, true), (8, true), (9, false), (10, false), (11, true), (12, true), (13, true), (14, true), (15, true), (16, true), (17, true), (18, true), (19, true), (20, true), (21, true), (22, false), (23, false), (24, true), (25, true)] [] []); kernel_rfl; (exact atks); kernel_rfl; intro r' hl')) | (rw [hge]) | (rw [hge0]) | (refine acl Tryz.func38 ?_; refine acr ((samePosting_any _ (markPo k i) (markPo k i) (els_nil _) (els_nil _)).mono (R' := fun u H => u = .bool true ∧ H = []) (fun u H ⟨e1, e2⟩ => ⟨e1.trans (congrArg Value.bool (decide_eq_true rfl)), e2⟩)) ?_; rintro v' H' ⟨rfl, rfl⟩; all_goals refine apl ?_) | (refine acl Tryz.func57 ?_; refine acr (markPosting_any _ k i) ?_; rintro v' H' ⟨rfl, rfl⟩; all_goals refine apl ?_) | (exfalso; first | contradiction | omega) | refine aw0 ?_ | (refine ap2 ?_ ?_ <;> try intro h) | refine aw1 ?_ | (refine abx ?_; intro bb) | (refine abz ?_; intro bz) | (refine ahv ?_; intro v' hv') | (refine aac ?_; intro ac cc) | refine aw2 ?_ | (refine ap4 ?_ ?_ <;> try intro h) | apply True.intro)
            all_goals first | (rw [hge] at h; exact absurd rfl h) | exact ⟨_, by omega, i + 1, rfl, by omega, ⟨_, atks⟩, asls⟩
        · repeat' (first | refine aw0m ?_ | (refine ap2 ?_ ?_ <;> try intro h) | refine aw1m ?_ | (refine abx ?_; intro bb) | (refine abz ?_; intro bz) | (refine ahv ?_; intro v' hv') | (refine aac ?_; intro ac cc) | refine aw2 ?_ | (refine ap4 ?_ ?_ <;> try intro h) | apply True.intro)
          exact ⟨_, by omega, k + 1, rfl, by omega, ⟨_, atks⟩, asls⟩
      · obtain rfl : k = rows.length := by omega
        refine sw_imp (A := Fam rows.length (fpo3 rows gs3) (fpo3 rows gs3) 0) (B := Fam rows.length (fpo4 rows (gvalpo rows fun _ => (none, 0))) (fpo3 rows gs3) 0) (by (exact atk)) (fun g h => by unfold Fam at h ⊢; rw [famL_congr (A' := fpo3 rows gs3) (B' := fpo3 rows gs3) (k' := 0) fun j _ => by simp]; exact h) ?_
        rw [← gsMpo_zero (gvalpo rows fun _ => (none, 0)), hGl]
        repeat' (first | refine aw0m ?_ | (refine ap2 ?_ ?_ <;> try intro h) | refine aw1m ?_ | (refine abx ?_; intro bb) | (refine abz ?_; intro bz) | (refine ahv ?_; intro v' hv') | (refine aac ?_; intro ac cc) | refine aw2 ?_ | (refine ap4 ?_ ?_ <;> try intro h) | apply True.intro)
        refine sw_loop (fun gm t H' => ∃ (k : Nat) (gb : Nat → Option Addr × Nat), gm = rows.length + 1 - k ∧ (k ≤ rows.length) ∧ (∃ G, Takes [RowC 26 1 (.slice (some ⟨bm, 0, none⟩) rows.length rows.length) rows.length (gsM rows.length k (gvalpo rows gb) (oldVpo gs3)), Fam rows.length (fpo4 rows (gvalpo rows gb)) (fpo3 rows gs3) k] H' G) ∧ Sls t 193 [(0, v), (5, .slice (some ⟨bm, 0, none⟩) rows.length rows.length), (11, .int .i64 k)]) _ ⟨0, fun _ => (none, 0), rfl, Nat.zero_le _, ⟨[], atks⟩, asls⟩ ?_
        rintro gm t H' ⟨k, gb, rfl, hk, ⟨G, hp⟩, hs'⟩
        revert t; refine sls_all ?_; iterate 190 intro uu'
        refine sw_takeG hp ?_; clear hp
        have hgl := gsM_len rows.length k (gvalpo rows gb) (oldVpo gs3)
        by_cases hlt : k < rows.length
        · refine sw_famOpen (n := rows.length) (A := fpo4 rows (gvalpo rows gb)) (B := fpo3 rows gs3) (k := k) (by (exact atk)) hlt ?_
          have hmem : rows.getD k default ∈ rows := by simp [hlt]
          have hl1 := hl _ hmem
          refine sw_split (A := fpo3 rows gs3 k) (B := RowC 53 2 (.slice (rows.getD k default).a (rows.getD k default).l.length (rows.getD k default).c) (rows.getD k default).l.length (((mrowpo k (rows.getD k default).l.length).flatMap encPo))) (C := fun _ => True) (by (exact atk)) (fun h hT => by obtain ⟨x, y, d, e, hR⟩ := Two.first hT; exact ⟨x, y, d, e, hR, trivial⟩) ?_
          refine sw_imp (A := RowC 53 2 (.slice (rows.getD k default).a (rows.getD k default).l.length (rows.getD k default).c) (rows.getD k default).l.length (((mrowpo k (rows.getD k default).l.length).flatMap encPo))) (B := Two 53 2 (.slice (rows.getD k default).a (rows.getD k default).l.length (rows.getD k default).c) (rows.getD k default).l.length (((mrowpo k (rows.getD k default).l.length).flatMap encPo)) (.slice (rows.getD k default).a (rows.getD k default).l.length (rows.getD k default).c) (rows.getD k default).l.length (((mrowpo k (rows.getD k default).l.length).flatMap encPo))) (by (exact atk)) (fun g h => Two.start h) ?_
          repeat' (first | ((with_reducible apply kx_makeNN (n := 64) (zs := [.string (bs []), .slice none 0 0])); exact ty_el; exact ty_inf; rfl; rfl; rfl; rfl; rfl; rfl; (omega); intro bq; (refine apk ?_)) | refine aw0 ?_ | (refine ap2 ?_ ?_ <;> try intro h) | refine aw1 ?_ | (refine abx ?_; intro bb) | (refine abz ?_; intro bz) | (refine ahv ?_; intro v' hv') | (refine aac ?_; intro ac cc) | refine aw2 ?_ | (refine ap4 ?_ ?_ <;> try intro h) | apply True.intro)
          rw [zerospo (k + rows.length)]
          refine sw_loop (fun gm t H' => ∃ i : Nat, gm = 65 - i ∧ (i ≤ 64) ∧ (∃ G, Takes [RowC 53 2 (.slice (some ⟨bq, 0, none⟩) 64 64) 64 (halfpo (k + rows.length) i (List.replicate 64 (⟨[], .slice none 0 0, []⟩ : PostV))), Two 53 2 (.slice (rows.getD k default).a (rows.getD k default).l.length (rows.getD k default).c) (rows.getD k default).l.length (((mrowpo k (rows.getD k default).l.length).flatMap encPo)) (.slice (rows.getD k default).a (rows.getD k default).l.length (rows.getD k default).c) (rows.getD k default).l.length (((mrowpo k (rows.getD k default).l.length).flatMap encPo)), RowC 26 1 (.slice (some ⟨bm, 0, none⟩) rows.length rows.length) rows.length (gsM rows.length k (gvalpo rows gb) (oldVpo gs3)), FamR rows.length (fpo4 rows (gvalpo rows gb)) (fpo3 rows gs3) k] H' G) ∧ Sls t 193 [(0, v), (5, .slice (some ⟨bm, 0, none⟩) rows.length rows.length), (11, .int .i64 k), (12, .slice (some ⟨bq, 0, none⟩) 64 64), (13, .int .i64 i)]) _ ⟨0, rfl, Nat.zero_le _, ⟨_, by (exact atks)⟩, asls⟩ ?_
          rintro gm t H' ⟨i, rfl, hi, ⟨G, hp⟩, hs'⟩
          revert t; refine sls_all ?_; iterate 188 intro uu'
          refine sw_takeG hp ?_; clear hp
          by_cases hi2 : i < 64
          · have hlen2 := halfpo_len (k := k + rows.length) (i := i) (l := List.replicate 64 (⟨[], .slice none 0 0, []⟩ : PostV)) (by simp; omega)
            rw [List.length_replicate] at hlen2
            repeat' (first | (refine acl Tryz.func57 ?_; refine acr (by rw [show ((k : Int) + (rows.length : Nat)) = ((k + rows.length : Nat) : Int) by omega]; exact markPosting_any _ (k + rows.length) i) ?_; rintro v' H' ⟨rfl, rfl⟩; all_goals refine apl ?_) | ((with_reducible apply kx_stCN); exact ty_size; rfl; rfl; rfl; (exact atk); rfl; rfl; (omega); (refine apk ?_)) | refine aw0 ?_ | (refine ap2 ?_ ?_ <;> try intro h) | refine aw1 ?_ | (refine abx ?_; intro bb) | (refine abz ?_; intro bz) | (refine ahv ?_; intro v' hv') | (refine aac ?_; intro ac cc) | refine aw2 ?_ | (refine ap4 ?_ ?_ <;> try intro h) | apply True.intro)
            exact ⟨_, by omega, i + 1, rfl, by omega, ⟨_, by rw [← halfpo_set (k := k + rows.length) (i := i) (l := List.replicate 64 (⟨[], .slice none 0 0, []⟩ : PostV)) (by simp; omega)]; (exact atks)⟩, asls⟩
          · obtain rfl : i = 64 := by omega
            rw [halfpo64]
            repeat' (first | ((with_reducible apply kx_lendC (A := RowC 53 2 (.slice (some ⟨bq, 0, none⟩) 64 64) 64 (((mrowpo (k + rows.length) 64).flatMap encPo)))); (exact atk); intro r1 g1 hr1 hg1 hA1; (with_reducible apply kx_appTwo (q := 64) (news := ((mrowpo (k + rows.length) 64).flatMap encPo))); exact ty_el; exact ty_inf; rfl; rfl; rfl; rfl; exact (hA1.sl hg1); (exact atk); exact (mrowpo_one _ _); (omega); (unfold maxLen; omega); (omega); intro a' c'; (refine apk ?_)) | ((with_reducible apply swo_famShut (n := rows.length) (A0 := fpo4 rows (gvalpo rows gb)) (A := fpo4 rows (turn (gvalpo rows gb) k (.slice a' ((rows.getD k default).l.length + 64) c'))) (B := fpo3 rows gs3) (k := k) (X := Two 53 2 (.slice (rows.getD k default).a (rows.getD k default).l.length (rows.getD k default).c) (rows.getD k default).l.length (((mrowpo k (rows.getD k default).l.length).flatMap encPo)) (.slice a' ((rows.getD k default).l.length + 64) c') ((rows.getD k default).l.length + 64) (((mrowpo k (rows.getD k default).l.length).flatMap encPo) ++ ((mrowpo (k + rows.length) 64).flatMap encPo)))); (exact atk); (exact atk); exact hlt; exact fpo4_turn; (intro g h; rw [fpo4_at]; exact h)) | ((with_reducible apply kx_stC); exact ty_size; rfl; rfl; (exact atk); rfl; (omega); (refine apk ?_)) | refine aw0 ?_ | (refine ap2 ?_ ?_ <;> try intro h) | refine aw1 ?_ | (refine abx ?_; intro bb) | (refine abz ?_; intro bz) | (refine ahv ?_; intro v' hv') | (refine aac ?_; intro ac cc) | refine aw2 ?_ | (refine ap4 ?_ ?_ <;> try intro h) | apply True.intro)
            exact ⟨_, by omega, k + 1, turnA gb k (a', c'), rfl, by omega, ⟨_, by rw [gvalpo_turn, ← gsM_set, show ((k : Int).toNat * 1) = k by simp]; (exact atks)⟩, asls⟩
        · obtain rfl : k = rows.length := by omega
          have hGl5 := rowsGpo5_len rows gb
          have hGm5 : ∀ k, k < rows.length → ((rowsGpo5 rows gb).getD k default).l = mrowpo5 rows.length k (rows.getD k default).l.length := fun k hk => by rw [rowsGpo5_at hk]
          rw [rowsGpo5_gs]
          refine sw_imp (A := Fam rows.length (fpo4 rows (gvalpo rows gb)) (fpo3 rows gs3) rows.length) (B := Fam rows.length (fpo3 rows (rowsGpo5 rows gb)) (fpo3 rows (rowsGpo5 rows gb)) 0) (by (exact atk)) (fun g h => by
            have := Fam.turn (C := fpo4 rows (gvalpo rows gb)) h
            unfold Fam at this ⊢
            rw [famL_congr (A' := fpo4 rows (gvalpo rows gb)) (B' := fpo4 rows (gvalpo rows gb)) (k' := 0) fun j hj => by simp [fpo3_of5 hj]]
            exact this) ?_
          generalize rowsGpo5 rows gb = gs5 at hGl5 hGm5
          repeat' (first | refine aw0m ?_ | (refine ap2 ?_ ?_ <;> try intro h) | refine aw1m ?_ | (refine abx ?_; intro bb) | (refine abz ?_; intro bz) | (refine ahv ?_; intro v' hv') | (refine aac ?_; intro ac cc) | refine aw2 ?_ | (refine ap4 ?_ ?_ <;> try intro h) | apply True.intro)
          refine sw_loop (fun gm t H' => ∃ (k : Nat), gm = rows.length + 1 - k ∧ (k ≤ rows.length) ∧ (∃ G, Takes [RowC 26 1 (.slice (some ⟨bm, 0, none⟩) rows.length rows.length) rows.length (gs5.flatMap encRpo), Fam rows.length (fpo3 rows gs5) (fpo3 rows gs5) 0] H' G) ∧ Sls t 193 [(0, v), (5, .slice (some ⟨bm, 0, none⟩) rows.length rows.length), (14, .int .i64 k)]) _ ⟨0, rfl, Nat.zero_le _, ⟨[], atks⟩, asls⟩ ?_
          rintro gm t H' ⟨k, rfl, hk, ⟨G, hp⟩, hs'⟩
          revert t; refine sls_all ?_; iterate 190 intro uu'
          refine sw_takeG hp ?_; clear hp
          by_cases hlt : k < rows.length
          · have hmem : rows.getD k default ∈ rows := by simp [hlt]
            have hl1 := hl _ hmem
            have hx := hGm5 k hlt
            have hxl : (gs5.getD k default).l.length = (rows.getD k default).l.length + 64 := by rw [hx, mrowpo5_len]
            have hm0 := mrowpo_len k (rows.getD k default).l.length
            refine sw_lendC (A := Fam rows.length (fpo3 rows gs5) (fpo3 rows gs5) 0) (by (exact atk)) fun r1 g1 hr1 hg1 hA1 => ?_
            refine sw_lendC (A := RowC 26 1 (.slice (some ⟨bm, 0, none⟩) rows.length rows.length) rows.length (gs5.flatMap encRpo)) (by (exact atk)) fun r2 g2 hr2 hg2 hA2 => ?_
            obtain ⟨g3, hg3, hA3⟩ := Fam.get hlt hA1
            have hs1 : Els r2 2 encPo (.slice (gs5.getD k default).a (gs5.getD k default).l.length (gs5.getD k default).c) (gs5.getD k default).l := ⟨fun _ => rfl, (hA3.slu (hg3.trans hg1)).mono hr2⟩
            have hs0 : Els r2 2 encPo (.slice (rows.getD k default).a (rows.getD k default).l.length (rows.getD k default).c) (mrowpo k (rows.getD k default).l.length) := ⟨fun _ => rfl, by rw [hm0]; exact (hA3.slv (hg3.trans hg1)).mono hr2⟩
            have hs2 : Els r2 1 encRpo (.slice (some ⟨bm, 0, none⟩) rows.length rows.length) gs5 := ⟨fun _ => rfl, by rw [hGl5]; exact hA2.sl hg2⟩
            have hv2 := (hv.mono hr1).mono hr2
            clear hA1 hA2 hA3
            repeat' (first | refine aw0m ?_ | (refine ap2 ?_ ?_ <;> try intro h) | refine aw1m ?_ | (refine abx ?_; intro bb) | (refine abz ?_; intro bz) | (refine ahv ?_; intro v' hv') | (refine aac ?_; intro ac cc) | refine aw2 ?_ | (refine ap4 ?_ ?_ <;> try intro h) | apply True.intro)
            refine sw_loop (fun gm t H' => ∃ i : Nat, gm = (rows.getD k default).l.length + 1 - i ∧ (i ≤ (rows.getD k default).l.length) ∧ (∃ G, Takes [] H' G) ∧ Sls t 193 [(0, v), (5, .slice (some ⟨bm, 0, none⟩) rows.length rows.length), (14, .int .i64 k), (15, .int .i64 i)]) _ ⟨0, rfl, Nat.zero_le _, ⟨[], atks⟩, asls⟩ ?_
            rintro gm t H' ⟨i, rfl, hi, ⟨G, hp⟩, hs'⟩
            revert t; refine sls_all ?_; iterate 189 intro uu'
            refine sw_takeG hp ?_; clear hp
            by_cases hi3 : i < (rows.getD k default).l.length
            · have hge : (gs5.getD k default).l.getD i default = markPo k i := by rw [hx]; exact mrowpo5_at hi3
              have hge0 : (mrowpo k (rows.getD k default).l.length).getD i default = markPo k i := mrowpo_at hi3
              repeat' (first | (first | ((with_reducible apply sw_draw (id := 7) 8 [(0, true), (1, true), (2, true), (3, true), (4, true), (5, true), (6, true), (7, false)] [(8, false), (9, false)] []); kernel_rfl; (exact atks); kernel_rfl; intro r' hl') | ((with_reducible apply sw_draw (id := 24) 35 [(0, true), (1, true), (2, true), (3, true), (4, true), (5, true), (6, true), (7, true), (8, true), (9, false), (10, false), (11, true), (12, true), (13, true), (14, true), (15, true), (16, true), (17, true), (18, true), (19, true), (20, true), (21, true), (22, true), (23, true), (24, true), (25, true), (26, true), (27, true), (28, true), (29, true), (30, false), (31, false), (32, true), (33, true), (34, true)] [] []); kernel_rfl; (exact atks); kernel_rfl; intro r' hl') | ((with_reducible apply sw_draw (id := 41) 26 [(0, true), (1, true), (2, true), (3, true), (4, true), (5, true), (6, true), (7, true), (8, true), (9, false), (10, false), (11, true), (12, true), (13, true), (14, true), (15, true), (16, true), (17, true), (18, true), (19, true), (20, true), (21, true), (22, false), (23, false), (24, true), (25, true)] [] []); kernel_rfl; (exact atks); kernel_rfl; intro r' hl')) | (rw [hge]) | (rw [hge0]) | (refine acl Tryz.func38 ?_; refine acr ((samePosting_any _ (markPo k i) (markPo k i) (els_nil _) (els_nil _)).mono (R' := fun u H => u = .bool true ∧ H = []) (fun u H ⟨e1, e2⟩ => ⟨e1.trans (congrArg Value.bool (decide_eq_true rfl)), e2⟩)) ?_; rintro v' H' ⟨rfl, rfl⟩; all_goals refine apl ?_) | (refine acl Tryz.func57 ?_; refine acr (markPosting_any _ k i) ?_; rintro v' H' ⟨rfl, rfl⟩; all_goals refine apl ?_) | (exfalso; first | contradiction | omega) | refine aw0 ?_ | (refine ap2 ?_ ?_ <;> try intro h) | refine aw1 ?_ | (refine abx ?_; intro bb) | (refine abz ?_; intro bz) | (refine ahv ?_; intro v' hv') | (refine aac ?_; intro ac cc) | refine aw2 ?_ | (refine ap4 ?_ ?_ <;> try intro h) | apply True.intro)
              all_goals first | (rw [hge] at h; exact absurd rfl h) | (rw [hge0] at h; exact absurd rfl h) | exact ⟨_, by omega, i + 1, rfl, by omega, ⟨_, atks⟩, asls⟩
            · repeat' (first | refine aw0m ?_ | (refine ap2 ?_ ?_ <;> try intro h) | refine aw1m ?_ | (refine abx ?_; intro bb) | (refine abz ?_; intro bz) | (refine ahv ?_; intro v' hv') | (refine aac ?_; intro ac cc) | refine aw2 ?_ | (refine ap4 ?_ ?_ <;> try intro h) | apply True.intro)
              exact ⟨_, by omega, k + 1, rfl, by omega, ⟨_, atks⟩, asls⟩
          · repeat' (first | refine aw0m ?_ | (refine ap2 ?_ ?_ <;> try intro h) | refine aw1m ?_ | (refine abx ?_; intro bb) | (refine abz ?_; intro bz) | (refine ahv ?_; intro v' hv') | (refine aac ?_; intro ac cc) | refine aw2 ?_ | (refine ap4 ?_ ?_ <;> try intro h) | apply True.intro)
            ((with_reducible apply fp_ret); exact res_1 rfl rfl)
            exact HR.out _ _ _ [] (by (exact atks)) ⟨rfl, rfl⟩
end Go.Proofs.YtkbajhiahpkgiaaGreat
