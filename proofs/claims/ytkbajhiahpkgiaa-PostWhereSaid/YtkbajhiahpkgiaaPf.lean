/- post.Right: its contract. -/
import Derived.Test.YtkbajhiahpkgiaaPfa
namespace Go.Proofs.Ytkbajhiahpkgiaa
open Go.RowKit Sx

theorem getD_drop {α : Type} [Inhabited α] {l : List α} {k : Nat} (h : k < l.length) : l.drop k = l.getD k default :: l.drop (k + 1) := by
  rw [List.drop_eq_getElem_cons h, List.getD_eq_getElem?_getD, List.getElem?_eq_getElem h]; rfl
theorem getD_mem {α : Type} [Inhabited α] {l : List α} {k : Nat} (h : k < l.length) : l.getD k default ∈ l := by
  rw [List.getD_eq_getElem?_getD, List.getElem?_eq_getElem h]; exact List.getElem_mem h
set_option maxRecDepth 10000 in
set_option maxHeartbeats 2000000 in
theorem right_post_any (r : Hp) (v : Value) (xs : List PostV) (hv : Posts r v xs) : Tri Try.prog r 22 [v] [] fun w H => w = .bool (postsOk [] (xs.map unP)) ∧ H = [] := by
  refine Tri.free2 fun R HR => ?_
  have hve := hv.1
  have hvn : xs.length ≤ maxLen := hve.2.2.1
  unfold maxLen at hvn
  refine fn_of_sw Try.func22 rfl _ rfl ?_; simp only [Try.ntmps22, List.length_cons, List.length_nil, Nat.reduceAdd, Nat.reduceSub, List.replicate_succ, List.replicate_zero, List.nil_append, List.cons_append]
  repeat' (first | (refine aw0m ?_) | (refine ap2 ?_ ?_ <;> first | exact True.intro | intro h) | (refine aw1m ?_) | (refine abx ?_; intro bb) | (refine abz ?_; intro bz) | (refine ahv ?_; intro v' hv') | (refine aac ?_; intro ac cc) | (refine aw2 ?_) | (refine ap4 ?_ ?_ <;> first | exact True.intro | intro h) | (with_reducible refine tr_two ?_ ?_))
  refine sw_loop (fun gm t H' => ∃ (k : Nat) (last : List UInt8), gm = xs.length + 1 - k ∧ (k ≤ xs.length) ∧ (postsOk [] (xs.map unP) = postsOk last ((xs.drop k).map unP)) ∧ (∃ G, Takes [] H' G) ∧ (t.length = 52 ∧ t[3]? = some (.string (bs last)) ∧ t[9]? = some (v) ∧ t[10]? = some (.int .i64 xs.length) ∧ t[11]? = some (.int .i64 k))) _ ⟨0, [], rfl, Nat.zero_le _, rfl, ⟨_, by (exact atks)⟩, rfl, (by first | rfl | exact congrArg some (congrArg (Value.int _) (by omega)) | (congr 2 <;> omega)), (by first | rfl | exact congrArg some (congrArg (Value.int _) (by omega)) | (congr 2 <;> omega)), (by first | rfl | exact congrArg some (congrArg (Value.int _) (by omega)) | (congr 2 <;> omega)), (by first | rfl | exact congrArg some (congrArg (Value.int _) (by omega)) | (congr 2 <;> omega))⟩ ?_
  rintro gm t H' ⟨k, last, rfl, hk, hs, ⟨G, hp⟩, hlen, e3, e9, e10, e11⟩
  revert e3 e9 e10 e11; revert t; refine all_len (n := 52) ?_; iterate 52 intro uu'
  intro e3 e9 e10 e11; cases e3; cases e9; cases e10; cases e11
  refine sw_takeG hp ?_
  clear hp
  by_cases hlt : k < xs.length
  · rw [getD_drop hlt, List.map_cons, postsOk] at hs
    have hx := hv.2 _ (getD_mem hlt)
    have hpo : postOk (unP (xs.getD k default)) = (decide ((xs.getD k default).gram.length = 3) && !(xs.getD k default).pl.isEmpty && chainP ⟨-1, 0⟩ (xs.getD k default).pl) := rfl
    by_cases c1 : (xs.getD k default).gram.length = 3
    · by_cases c3 : Op.bytesLess (xs.getD k default).gram last = true ∨ (xs.getD k default).gram = last
      · have c2 : ¬ last = [] := by
          rintro rfl
          rcases c3 with c | c
          · cases hg : (xs.getD k default).gram <;> rw [hg] at c <;> cases c
          · rw [c] at c1; cases c1
        have hs2 : postsOk [] (xs.map unP) = false := by
          rw [hs, show (unP (xs.getD k default)).1 = (xs.getD k default).gram from rfl]
          rcases c3 with c | c
          · rw [c]; simp
          · rw [decide_eq_true c]; simp
        rw [hs2] at HR
        repeat' (first | (refine aw0m ?_) | (refine ap2 ?_ ?_ <;> first | exact True.intro | intro h) | (exfalso; first | contradiction | exact h.2 (c3.resolve_left (by rw [h.1]; simp))) | (refine aw1m ?_) | (refine abx ?_; intro bb) | (refine abz ?_; intro bz) | (refine ahv ?_; intro v' hv') | (refine aac ?_; intro ac cc) | (refine aw2 ?_) | (refine ap4 ?_ ?_ <;> first | exact True.intro | intro h) | (with_reducible refine tr_two ?_ ?_))
        ((with_reducible apply fp_ret); exact res_1 rfl rfl); exact HR.out _ _ _ [] Takes.all ⟨rfl, rfl⟩
      · have hn : (Op.bytesLess (unP (xs.getD k default)).1 last || decide ((unP (xs.getD k default)).1 = last)) = false := by
          rw [show (unP (xs.getD k default)).1 = (xs.getD k default).gram from rfl]
          cases h1 : Op.bytesLess (xs.getD k default).gram last
          · rw [decide_eq_false (fun e => c3 (.inr e))]; rfl
          · exact absurd (.inl h1) c3
        rw [hn] at hs
        by_cases c4 : (xs.getD k default).pl.length = 0
        · have hs2 : postsOk [] (xs.map unP) = false := by
            rw [hs, hpo, List.length_eq_zero_iff.1 c4]; simp
          rw [hs2] at HR
          repeat' (first | (refine aw0m ?_) | (refine ap2 ?_ ?_ <;> first | exact True.intro | intro h) | (exfalso; contradiction) | (refine aw1m ?_) | (refine abx ?_; intro bb) | (refine abz ?_; intro bz) | (refine ahv ?_; intro v' hv') | (refine aac ?_; intro ac cc) | (refine aw2 ?_) | (refine ap4 ?_ ?_ <;> first | exact True.intro | intro h) | (with_reducible refine tr_two ?_ ?_))
          ((with_reducible apply fp_ret); exact res_1 rfl rfl); exact HR.out _ _ _ [] Takes.all ⟨rfl, rfl⟩
        · have he : (xs.getD k default).pl.isEmpty = false := by
            cases hp : (xs.getD k default).pl with
            | nil => rw [hp] at c4; exact absurd rfl c4
            | cons => rfl
          rw [hpo, decide_eq_true c1, he] at hs
          repeat' (first | (refine aw0m ?_) | (refine ap2 ?_ ?_ <;> first | exact True.intro | intro h) | (exfalso; contradiction) | (refine aw1m ?_) | (refine abx ?_; intro bb) | (refine abz ?_; intro bz) | (refine ahv ?_; intro v' hv') | (refine aac ?_; intro ac cc) | (refine aw2 ?_) | (refine ap4 ?_ ?_ <;> first | exact True.intro | intro h) | (with_reducible refine tr_two ?_ ?_))
          have hg0 : (unP (xs.getD k default)).1 = (xs.getD k default).gram := rfl
          rw [hg0] at hs
          have hxn : (xs.getD k default).pl.length ≤ maxLen := hx.2.2.1
          unfold maxLen at hxn
          generalize xs.getD k default = x at hs hx hxn ⊢
          simp only [Bool.not_false, Bool.true_and, Bool.and_true] at hs
          refine sw_loop (fun gm t H' => ∃ (i b6 : Nat) (a : PlaceV), gm = x.pl.length + 1 - i ∧ (i ≤ x.pl.length) ∧ (chainP ⟨-1, 0⟩ x.pl = chainP a (x.pl.drop i)) ∧ (∃ G, Takes [pt b6 (.cells (encPl a).toArray 44 (0, 0))] H' G) ∧ (t.length = 52 ∧ t[3]? = some (.string (bs x.gram)) ∧ t[6]? = some (.pointer (some ⟨b6, 0, none⟩)) ∧ t[9]? = some (v) ∧ t[10]? = some (.int .i64 xs.length) ∧ t[11]? = some (.int .i64 k) ∧ t[39]? = some (x.val) ∧ t[40]? = some (.int .i64 x.pl.length) ∧ t[41]? = some (.int .i64 i))) _ ⟨0, _, ⟨-1, 0⟩, rfl, Nat.zero_le _, rfl, ⟨_, by (exact atks)⟩, rfl, (by first | rfl | exact congrArg some (congrArg (Value.int _) (by omega)) | (congr 2 <;> omega)), (by first | rfl | exact congrArg some (congrArg (Value.int _) (by omega)) | (congr 2 <;> omega)), (by first | rfl | exact congrArg some (congrArg (Value.int _) (by omega)) | (congr 2 <;> omega)), (by first | rfl | exact congrArg some (congrArg (Value.int _) (by omega)) | (congr 2 <;> omega)), (by first | rfl | exact congrArg some (congrArg (Value.int _) (by omega)) | (congr 2 <;> omega)), (by first | rfl | exact congrArg some (congrArg (Value.int _) (by omega)) | (congr 2 <;> omega)), (by first | rfl | exact congrArg some (congrArg (Value.int _) (by omega)) | (congr 2 <;> omega)), (by first | rfl | exact congrArg some (congrArg (Value.int _) (by omega)) | (congr 2 <;> omega))⟩ ?_
          rintro gm t H' ⟨i, b6, a, rfl, hi, hc, ⟨G, hp⟩, hlen, e3, e6, e9, e10, e11, e39, e40, e41⟩
          revert e3 e6 e9 e10 e11 e39 e40 e41; revert t; refine all_len (n := 52) ?_; iterate 52 intro uu'
          intro e3 e6 e9 e10 e11 e39 e40 e41; cases e3; cases e6; cases e9; cases e10; cases e11; cases e39; cases e40; cases e41
          refine sw_takeG hp ?_
          clear hp
          by_cases hlt1 : i < x.pl.length
          · rw [getD_drop hlt1, chainP] at hc
            have hff := fun r' => fits_post_any r' a (x.pl.getD i default)
            cases hfp : fitsP a (x.pl.getD i default)
            · rw [hfp] at hc hff
              rw [hc] at hs
              rw [hs] at HR
              repeat' (first | (refine aw0m ?_) | (refine ap2 ?_ ?_ <;> first | exact True.intro | intro h) | ((with_reducible apply kx_call (f := 49) (cap := [])); exact goesOf Try.func49 (by kernel_rfl) rfl; rfl; rfl; exact (hff _); (exact atks); rintro v' H' ⟨rfl, rfl⟩; all_goals ((try simp only [List.nil_append]); (refine apk ?_))) | (exfalso; contradiction) | (refine aw1m ?_) | (refine abx ?_; intro bb) | (refine abz ?_; intro bz) | (refine ahv ?_; intro v' hv') | (refine aac ?_; intro ac cc) | (refine aw2 ?_) | (refine ap4 ?_ ?_ <;> first | exact True.intro | intro h) | (with_reducible refine tr_two ?_ ?_))
              ((with_reducible apply fp_ret); exact res_1 rfl rfl); exact HR.out _ _ _ [] Takes.all ⟨rfl, rfl⟩
            · rw [hfp, Bool.true_and] at hc
              rw [hfp] at hff
              repeat' (first | (refine aw0m ?_) | (refine ap2 ?_ ?_ <;> first | exact True.intro | intro h) | ((with_reducible apply kx_call (f := 49) (cap := [])); exact goesOf Try.func49 (by kernel_rfl) rfl; rfl; rfl; exact (hff _); (exact atks); rintro v' H' ⟨rfl, rfl⟩; all_goals ((try simp only [List.nil_append]); (refine apk ?_))) | (exfalso; contradiction) | (refine aw1m ?_) | (refine abx ?_; intro bb) | (refine abz ?_; intro bz) | (refine ahv ?_; intro v' hv') | (refine aac ?_; intro ac cc) | (refine aw2 ?_) | (refine ap4 ?_ ?_ <;> first | exact True.intro | intro h) | (with_reducible refine tr_two ?_ ?_))
              exact ⟨_, (by omega), i + 1, b6, x.pl.getD i default, rfl, by omega, hc, ⟨_, by (exact atks)⟩, rfl, (by first | rfl | exact congrArg some (congrArg (Value.int _) (by omega)) | (congr 2 <;> omega)), (by first | rfl | exact congrArg some (congrArg (Value.int _) (by omega)) | (congr 2 <;> omega)), (by first | rfl | exact congrArg some (congrArg (Value.int _) (by omega)) | (congr 2 <;> omega)), (by first | rfl | exact congrArg some (congrArg (Value.int _) (by omega)) | (congr 2 <;> omega)), (by first | rfl | exact congrArg some (congrArg (Value.int _) (by omega)) | (congr 2 <;> omega)), (by first | rfl | exact congrArg some (congrArg (Value.int _) (by omega)) | (congr 2 <;> omega)), (by first | rfl | exact congrArg some (congrArg (Value.int _) (by omega)) | (congr 2 <;> omega)), (by first | rfl | exact congrArg some (congrArg (Value.int _) (by omega)) | (congr 2 <;> omega))⟩
          · obtain rfl : i = x.pl.length := by omega
            rw [List.drop_length, chainP] at hc
            rw [hc] at hs
            repeat' (first | (refine aw0m ?_) | (refine ap2 ?_ ?_ <;> first | exact True.intro | intro h) | (refine aw1m ?_) | (refine abx ?_; intro bb) | (refine abz ?_; intro bz) | (refine ahv ?_; intro v' hv') | (refine aac ?_; intro ac cc) | (refine aw2 ?_) | (refine ap4 ?_ ?_ <;> first | exact True.intro | intro h) | (with_reducible refine tr_two ?_ ?_))
            exact ⟨_, (by omega), k + 1, x.gram, rfl, by omega, by rw [hs]; rfl, ⟨_, by (exact atks)⟩, rfl, (by first | rfl | exact congrArg some (congrArg (Value.int _) (by omega)) | (congr 2 <;> omega)), (by first | rfl | exact congrArg some (congrArg (Value.int _) (by omega)) | (congr 2 <;> omega)), (by first | rfl | exact congrArg some (congrArg (Value.int _) (by omega)) | (congr 2 <;> omega)), (by first | rfl | exact congrArg some (congrArg (Value.int _) (by omega)) | (congr 2 <;> omega))⟩
    · have hs2 : postsOk [] (xs.map unP) = false := by
        rw [hs, hpo, decide_eq_false c1]; simp
      rw [hs2] at HR
      repeat' (first | (refine aw0m ?_) | (refine ap2 ?_ ?_ <;> first | exact True.intro | intro h) | (exfalso; contradiction) | (refine aw1m ?_) | (refine abx ?_; intro bb) | (refine abz ?_; intro bz) | (refine ahv ?_; intro v' hv') | (refine aac ?_; intro ac cc) | (refine aw2 ?_) | (refine ap4 ?_ ?_ <;> first | exact True.intro | intro h) | (with_reducible refine tr_two ?_ ?_))
      ((with_reducible apply fp_ret); exact res_1 rfl rfl); exact HR.out _ _ _ [] Takes.all ⟨rfl, rfl⟩
  · obtain rfl : k = xs.length := by omega
    rw [List.drop_length, List.map_nil, postsOk] at hs
    repeat' (first | (refine aw0m ?_) | (refine ap2 ?_ ?_ <;> first | exact True.intro | intro h) | (refine aw1m ?_) | (refine abx ?_; intro bb) | (refine abz ?_; intro bz) | (refine ahv ?_; intro v' hv') | (refine aac ?_; intro ac cc) | (refine aw2 ?_) | (refine ap4 ?_ ?_ <;> first | exact True.intro | intro h) | (with_reducible refine tr_two ?_ ?_))
    ((with_reducible apply fp_ret); exact res_1 rfl rfl)
    exact HR.out _ _ _ [] Takes.all ⟨by rw [hs], rfl⟩
end Go.Proofs.Ytkbajhiahpkgiaa
