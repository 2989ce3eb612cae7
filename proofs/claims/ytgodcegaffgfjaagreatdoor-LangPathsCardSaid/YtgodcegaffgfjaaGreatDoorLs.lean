
/- mudlarkref06.All: its contract. -/
import Derived.Test.YtgodcegaffgfjaaGreatDoorLq
import Derived.Test.YtgodcegaffgfjaaGreatDoorTable06
namespace Go.Proofs.YtgodcegaffgfjaaGreatDoor
open Go.RowKit Sx

def encRow (p : Tx × Tx) : List Value := [.string (bs p.1), .string (bs p.2)]
instance : Inhabited (Tx × Tx) := ⟨([], [])⟩
/-- The languages of the rows, of equal neighbours the first. -/
def langsUpTo : List (Tx × Tx) → List Tx := List.foldl (fun acc p => if acc = [] ∨ acc.getD (acc.length - 1) default ≠ p.2 then acc ++ [p.2] else acc) []
theorem langs_all : langsUpTo tbl = allL := by decide +kernel
theorem langs_succ {k : Nat} (h : k < tbl.length) : langsUpTo (tbl.take (k + 1)) = (if langsUpTo (tbl.take k) = [] ∨ (langsUpTo (tbl.take k)).getD ((langsUpTo (tbl.take k)).length - 1) default ≠ (tbl.getD k default).2 then langsUpTo (tbl.take k) ++ [(tbl.getD k default).2] else langsUpTo (tbl.take k)) := by
  rw [take_getD (d := default) h]
  unfold langsUpTo
  rw [List.foldl_append]
  rfl
theorem langs_len (k : Nat) : (langsUpTo (tbl.take k)).length ≤ 100 := by
  have h : ∀ (l : List (Tx × Tx)), (langsUpTo l).length ≤ l.length := by
    intro l
    have : ∀ (l : List (Tx × Tx)) (acc : List Tx), (List.foldl (fun acc p => if acc = [] ∨ acc.getD (acc.length - 1) default ≠ p.2 then acc ++ [p.2] else acc) acc l).length ≤ acc.length + l.length := by
      intro l
      induction l with
      | nil => intro acc; exact Nat.le_refl _
      | cons x l ih =>
        intro acc
        rw [List.foldl_cons]
        refine Nat.le_trans (ih _) ?_
        split <;> simp <;> omega
    have h2 := this l []
    rw [List.length_nil, Nat.zero_add] at h2
    exact h2
  have h1 := h (tbl.take k)
  have h2 : (tbl.take k).length ≤ 22 := by
    rw [List.length_take]
    exact Nat.le_trans (Nat.min_le_right _ _) (by decide)
  omega
theorem tbl_tri (r : Hp) : Tri Tryz.prog r 31 [] [] fun w H => ∃ b : Nat, w = .slice (some ⟨b, 0, none⟩) 22 22 ∧ H = [RowC 61 2 (.slice (some ⟨b, 0, none⟩) 22 22) 22 (tbl.flatMap encRow)] := by
  refine tri_iff.2 fun w g ok al => ?_
  obtain rfl : g = emp := al
  refine (table_any w).mono fun e w' ⟨he, hw⟩ => ?_
  subst hw
  have hfl : tblCells.length = 44 := by decide +kernel
  have hpush : ∀ k, k < w.heap.size → (w.alloc (.cells tblCells.toArray 61)).heap[k]? = w.heap[k]? := fun k hk => by
    show (w.heap.push _)[k]? = _
    rw [Array.getElem?_push, if_neg (Nat.ne_of_lt hk)]
  have hsz2 : w.heap.size ≤ (w.alloc (.cells tblCells.toArray 61)).heap.size := by
    show _ ≤ (w.heap.push _).size
    rw [Array.size_push]
    omega
  have hne : (w.alloc (.cells tblCells.toArray 61)).heap[w.heap.size]? = some (.cells tblCells.toArray 61 (0, 0)) := World.alloc_heap_new w _
  rw [show tbl.flatMap encRow = tblCells from rfl]
  generalize tblCells = xs at *
  refine ⟨_, _, Sx.one w.heap.size (.cells xs.toArray 61 (0, 0)), he, ⟨_, rfl, rfl⟩, ⟨_, emp, dj_emp, un_emp.symm, ⟨hfl, .inr ⟨w.heap.size, 22, xs.toArray, rfl, rfl, Nat.le_refl _, by unfold maxLen; omega, hfl, ?_⟩⟩, rfl⟩, ?_⟩
  · show List.take 44 xs = xs
    rw [← hfl]
    exact List.take_length
  · exact To.step ok rfl rfl rfl hsz2 (fun k hk _ => hpush k hk) (fun k u hk => by obtain ⟨rfl, rfl⟩ := one_some hk; exact hne) (fun k hk => .inr (by have := one_ne hk; omega))
set_option maxRecDepth 10000 in
set_option maxHeartbeats 4000000 in
theorem refAll_any : RefAllT := by
  unfold RefAllT
  intro r
  refine Tri.free2 fun R HR => ?_
  have htl : tbl.length = 22 := by decide
  refine fn_of_sw Tryz.func10 rfl _ rfl ?_; refine aen Tryz.ntmps10 ?_
  repeat' (first | (refine acl Tryz.func31 ?_; refine acr (tbl_tri _) ?_; rintro v' H' ⟨b, rfl, rfl⟩; all_goals refine apl ?_) | refine aw0 ?_ | (refine ap2 ?_ ?_ <;> try intro h) | refine aw1 ?_ | (refine abx ?_; intro bb) | (refine abz ?_; intro bz) | (refine ahv ?_; intro v' hv') | (refine aac ?_; intro ac cc) | refine aw2 ?_ | (refine ap4 ?_ ?_ <;> try intro h) | apply True.intro)
  refine sw_put (A := RowC 9 1 (.slice none 0 0) 0 []) (RowC.nil _ _) ?_
  refine sw_lendC (A := RowC 61 2 (.slice (some ⟨b, 0, none⟩) 22 22) 22 (tbl.flatMap encRow)) (by (exact atk)) fun r1 g1 hr1 hg1 hA1 => ?_
  have hT : Els r1 2 encRow (.slice (some ⟨b, 0, none⟩) 22 22) tbl := ⟨fun _ => rfl, by rw [htl]; exact hA1.sl hg1⟩
  clear hA1
  refine sw_loop (fun gm t H' => ∃ (k : Nat) (L : List Tx) (n : Nat) (a : Option Addr) (c : Nat), gm = 23 - k ∧ (k ≤ 22) ∧ (langsUpTo (tbl.take k) = L) ∧ (L.length = n) ∧ (∃ G, Takes [RowC 9 1 (.slice a n c) n (L.flatMap encTx)] H' G) ∧ Sls t 37 [(1, .slice a n c), (2, .slice (some ⟨b, 0, none⟩) 22 22), (3, .int .i64 k)]) _ ⟨0, [], 0, none, 0, rfl, Nat.zero_le _, rfl, rfl, ⟨[], atks⟩, asls⟩ ?_
  rintro gm t H' ⟨k, L, n, a, c, rfl, hk, hL, hn, ⟨G, hp⟩, hs'⟩
  revert t; refine sls_all ?_; iterate 34 intro uu'
  refine sw_takeG hp ?_; clear hp
  have hln := langs_len k
  rw [hL] at hln
  subst hn
  by_cases hlt : k < 22
  · have hss := langs_succ (by omega : k < tbl.length)
    rw [hL, show L.length - 1 = ((L.length : Int) - 1).toNat by omega] at hss
    by_cases h0 : L.length = 0
    · rw [if_pos (.inl (List.length_eq_zero_iff.1 h0))] at hss
      repeat' (first | (first | ((with_reducible apply sw_draw (id := 6) 17 [(0, true), (1, true), (2, true), (3, true), (4, true), (5, true), (6, true), (7, true), (8, true), (9, true), (10, true), (11, true), (12, true), (13, true), (14, true), (15, true), (16, true)] [] []); kernel_rfl; (exact atks); kernel_rfl; intro r' hl')) | (first | ((with_reducible apply kx_bs1); exact ty_el; exact ty_inf; rfl; rfl; rfl; intro bz; (refine apk ?_)) | ((with_reducible apply kx_bsN); exact ty_el; exact ty_inf; rfl; rfl; rfl; intro bz; (refine apk ?_))) | (first | ((with_reducible apply kx_append1); exact ty_el; exact ty_inf; rfl; rfl; rfl; (exact atk); (exact atk); rfl; (omega); intro a' c'; (refine apk ?_)) | ((with_reducible apply kx_appendN); exact ty_el; exact ty_inf; rfl; rfl; rfl; rfl; (exact atk); (exact atk); rfl; rfl; (omega); intro a' c'; (refine apk ?_))) | (exfalso; first | contradiction | omega) | refine aw0 ?_ | (refine ap2 ?_ ?_ <;> try intro h) | refine aw1 ?_ | (refine abx ?_; intro bb) | (refine abz ?_; intro bz) | (refine ahv ?_; intro v' hv') | (refine aac ?_; intro ac cc) | refine aw2 ?_ | (refine ap4 ?_ ?_ <;> try intro h) | apply True.intro)
      exact ⟨_, by omega, k + 1, L ++ [(tbl.getD k default).2], L.length + 1, _, _, rfl, by omega, hss, List.length_append, ⟨_, by rw [List.flatMap_append]; (exact atks)⟩, asls⟩
    · by_cases he : L.getD ((L.length : Int) - 1).toNat default = (tbl.getD k default).2
      · rw [if_neg (fun e => e.elim (fun e => h0 (by rw [e]; rfl)) (fun e => e he))] at hss
        repeat' (first | ((with_reducible apply sw_lendQ (c := .region 6 _ _) (A := RowC 9 1 (.slice a L.length c) L.length (L.flatMap encTx))); (with_reducible (exact atk)); intro r2 g2 hr2 hg2 hA2; have hE2 : Els r2 1 encTx (.slice a L.length c) L := ⟨fun _ => rfl, hA2.sl hg2⟩; have hT2 := hT.mono hr2) | (first | ((with_reducible apply sw_draw (id := 6) 17 [(0, true), (1, true), (2, true), (3, true), (4, true), (5, true), (6, true), (7, true), (8, true), (9, true), (10, true), (11, true), (12, true), (13, true), (14, true), (15, true), (16, true)] [] []); kernel_rfl; (exact atks); kernel_rfl; intro r' hl')) | (exfalso; first | contradiction | omega) | refine aw0 ?_ | (refine ap2 ?_ ?_ <;> try intro h) | refine aw1 ?_ | (refine abx ?_; intro bb) | (refine abz ?_; intro bz) | (refine ahv ?_; intro v' hv') | (refine aac ?_; intro ac cc) | refine aw2 ?_ | (refine ap4 ?_ ?_ <;> try intro h) | apply True.intro)
        exact ⟨_, by omega, k + 1, L, L.length, a, c, rfl, by omega, hss, rfl, ⟨_, by (exact atks)⟩, asls⟩
      · rw [if_pos (.inr he)] at hss
        repeat' (first | ((with_reducible apply sw_lendQ (c := .region 6 _ _) (A := RowC 9 1 (.slice a L.length c) L.length (L.flatMap encTx))); (with_reducible (exact atk)); intro r2 g2 hr2 hg2 hA2; have hE2 : Els r2 1 encTx (.slice a L.length c) L := ⟨fun _ => rfl, hA2.sl hg2⟩; have hT2 := hT.mono hr2) | (first | ((with_reducible apply sw_draw (id := 6) 17 [(0, true), (1, true), (2, true), (3, true), (4, true), (5, true), (6, true), (7, true), (8, true), (9, true), (10, true), (11, true), (12, true), (13, true), (14, true), (15, true), (16, true)] [] []); kernel_rfl; (exact atks); kernel_rfl; intro r' hl')) | (first | ((with_reducible apply kx_bs1); exact ty_el; exact ty_inf; rfl; rfl; rfl; intro bz; (refine apk ?_)) | ((with_reducible apply kx_bsN); exact ty_el; exact ty_inf; rfl; rfl; rfl; intro bz; (refine apk ?_))) | (first | ((with_reducible apply kx_append1); exact ty_el; exact ty_inf; rfl; rfl; rfl; (exact atk); (exact atk); rfl; (omega); intro a' c'; (refine apk ?_)) | ((with_reducible apply kx_appendN); exact ty_el; exact ty_inf; rfl; rfl; rfl; rfl; (exact atk); (exact atk); rfl; rfl; (omega); intro a' c'; (refine apk ?_))) | (exfalso; first | contradiction | omega) | refine aw0 ?_ | (refine ap2 ?_ ?_ <;> try intro h) | refine aw1 ?_ | (refine abx ?_; intro bb) | (refine abz ?_; intro bz) | (refine ahv ?_; intro v' hv') | (refine aac ?_; intro ac cc) | refine aw2 ?_ | (refine ap4 ?_ ?_ <;> try intro h) | apply True.intro)
        exact ⟨_, by omega, k + 1, L ++ [(tbl.getD k default).2], L.length + 1, _, _, rfl, by omega, hss, List.length_append, ⟨_, by rw [List.flatMap_append]; (exact atks)⟩, asls⟩
  · obtain rfl : k = 22 := by omega
    rw [show langsUpTo (tbl.take 22) = allL from langs_all] at hL
    subst hL
    have hal : allL.length = 17 := rfl
    rw [hal]
    repeat' (first | (exfalso; first | contradiction | omega) | refine aw0 ?_ | (refine ap2 ?_ ?_ <;> try intro h) | refine aw1 ?_ | (refine abx ?_; intro bb) | (refine abz ?_; intro bz) | (refine ahv ?_; intro v' hv') | (refine aac ?_; intro ac cc) | refine aw2 ?_ | (refine ap4 ?_ ?_ <;> try intro h) | apply True.intro)
    ((with_reducible apply fp_ret); exact res_1 rfl rfl)
    exact HR.out _ _ _ [_] (by (exact atks)) ⟨_, _, rfl, rfl⟩
end Go.Proofs.YtgodcegaffgfjaaGreatDoor
