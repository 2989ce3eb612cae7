/- (*post.reader).heads: its contract. -/
import Derived.Test.YtkbajhiahpkgiaaPf
import Derived.Test.YtkbajhiahpkgiaaRtn
namespace Go.Proofs.Ytkbajhiahpkgiaa
open Go.RowKit Sx

def encH (h : HeadV) : List Value := [.int .i64 h.doc, .int .i64 h.many, .int .i64 h.size]
abbrev rdp (g : Nat) (bd : Bool) : Obj := .cells [.pointer (some ⟨g, 0, none⟩), .bool bd].toArray 109 (0, 0)
set_option maxRecDepth 10000 in
set_option maxHeartbeats 2000000 in
theorem heads_any (r : Hp) (p g : Nat) (v : Value) (bad bd : Bool) (st : Option (List UInt8)) (size : Nat) (hv : RdOk r v bad st) (hs : size ≤ 100000000) : Tri Try.prog r 65 [.pointer (some ⟨p, 0, none⟩), .int .i64 size] [pt p (rdp g bd), pt g (rdr v bad)] fun w H =>
    ∃ a c v' bad', w = .slice a (headsR size (numR size st).1 (numR size st).1 0 (numR size st).2).1.length c ∧ RdOk r v' bad' (headsR size (numR size st).1 (numR size st).1 0 (numR size st).2).2 ∧
      H = [pt p (rdp g bd), pt g (rdr v' bad'), RowC 113 3 w (headsR size (numR size st).1 (numR size st).1 0 (numR size st).2).1.length ((headsR size (numR size st).1 (numR size st).1 0 (numR size st).2).1.flatMap encH)] := by
  refine Tri.free2 fun R HR => ?_
  have hn := num_any r g v bad st size hv
  have hN : (numR size st).1 ≤ size := numR_most size st
  generalize (numR size st).1 = N at HR hn hN
  generalize (numR size st).2 = s0 at HR hn
  refine fn_of_sw Try.func65 rfl _ rfl ?_; simp only [Try.ntmps65, List.length_cons, List.length_nil, Nat.reduceAdd, Nat.reduceSub, List.replicate_succ, List.replicate_zero, List.nil_append, List.cons_append]
  repeat' (first | (refine aw0m ?_) | (refine ap2 ?_ ?_ <;> first | exact True.intro | intro h) | ((with_reducible apply kx_call (f := 37) (cap := [])); exact goesOf Try.func37 (by kernel_rfl) rfl; rfl; rfl; exact (hn); (exact atks); rintro v' H' ⟨rfl, v0, b0, h0, rfl⟩; all_goals ((try simp only [List.cons_append, List.nil_append]); (refine apk ?_))) | (refine aw1m ?_) | (refine abx ?_; intro bb) | (refine abz ?_; intro bz) | (refine ahv ?_; intro v' hv') | (refine aac ?_; intro ac cc) | (refine aw2 ?_) | (refine ap4 ?_ ?_ <;> first | exact True.intro | intro h) | (with_reducible refine tr_two ?_ ?_))
  refine sw_put (A := RowC 113 3 (.slice none 0 0) 0 []) (RowC.nil _ _) ?_
  refine sw_loop (fun gm t H' => ∃ (k n doc : Nat) (z : Int) (D : List HeadV) (s : Stt) (v1 : Value) (b1 : Bool) (a : Option Addr) (c : Nat), gm = k + 1 ∧ (headsR size N N 0 s0 = (D ++ (headsR size k n doc s).1, (headsR size k n doc s).2)) ∧ (n ≤ k) ∧ (z.toNat = n ∧ -64 ≤ z ∧ z ≤ 100000000) ∧ (doc + 4000 * k ≤ 4000 * N) ∧ (D.length + k ≤ N) ∧ (RdOk r v1 b1 s) ∧ (∃ G, Takes [pt p (rdp g bd), pt g (rdr v1 b1), RowC 113 3 (.slice a D.length c) D.length (D.flatMap encH)] H' G) ∧ (t.length = 45 ∧ t[0]? = some (.pointer (some ⟨p, 0, none⟩)) ∧ t[1]? = some (.int .i64 size) ∧ t[4]? = some (.slice a D.length c) ∧ t[5]? = some (.int .i64 doc) ∧ t[6]? = some (.int .i64 z))) _ ⟨N, N, 0, N, [], s0, v0, b0, none, 0, rfl, rfl, Nat.le_refl _, by omega, by omega, by simp, h0, ⟨_, by (exact atks)⟩, rfl, (by first | rfl | exact congrArg some (congrArg (Value.int _) (by omega)) | (congr 2 <;> omega)), (by first | rfl | exact congrArg some (congrArg (Value.int _) (by omega)) | (congr 2 <;> omega)), (by first | rfl | exact congrArg some (congrArg (Value.int _) (by omega)) | (congr 2 <;> omega)), (by first | rfl | exact congrArg some (congrArg (Value.int _) (by omega)) | (congr 2 <;> omega)), (by first | rfl | exact congrArg some (congrArg (Value.int _) (by omega)) | (congr 2 <;> omega))⟩ ?_
  rintro gm t H' ⟨k, n, doc, z, D, s, v1, b1, a, c, rfl, hR, hk, hz, hd, hDl, hv1, ⟨G, hp⟩, hlen, e0, e1, e4, e5, e6⟩
  revert e0 e1 e4 e5 e6; revert t; refine all_len (n := 45) ?_; iterate 45 intro uu'
  intro e0 e1 e4 e5 e6; cases e0; cases e1; cases e4; cases e5; cases e6
  refine sw_takeG hp ?_
  clear hp
  have hok := rok_any r g v1 b1
  by_cases hz0 : 0 < z
  · obtain ⟨k, rfl⟩ : ∃ k', k = k' + 1 := ⟨k - 1, by omega⟩
    rcases hv1 with ⟨rfl, l, rfl, hl⟩ | ⟨rfl, rfl, x, hx⟩
    · obtain rfl : z = n := by omega
      have hr1 : headsR size (k + 1) n doc (some l) = (⟨doc + (numR 4000 (some l)).1, min n 64, (numR size (numR 4000 (some l)).2).1⟩ :: (headsR size k (n - 64) (doc + (numR 4000 (some l)).1) (numR size (numR 4000 (some l)).2).2).1, (headsR size k (n - 64) (doc + (numR 4000 (some l)).1) (numR size (numR 4000 (some l)).2).2).2) := by
        rw [headsR, if_neg (by simp; omega)]
      rw [hr1] at hR
      clear hr1
      have h1 := num_any r g v1 false (some l) 4000 (.inl ⟨rfl, l, rfl, hl⟩)
      have hd1 : (numR 4000 (some l)).1 ≤ 4000 := numR_most 4000 _
      generalize hd0 : (numR 4000 (some l)).1 = d at hR h1 hd1
      generalize hs1 : (numR 4000 (some l)).2 = s1 at hR h1
      have h2 := fun v2 b2 (h : RdOk r v2 b2 s1) => num_any r g v2 b2 s1 size h
      have hd2 : (numR size s1).1 ≤ size := numR_most size _
      generalize (numR size s1).1 = t at hR h2 hd2
      generalize (numR size s1).2 = s2 at hR h2
      have hX : ([⟨doc + d, min n 64, t⟩] : List HeadV).flatMap encH = [.int .i64 ((doc : Int) + d), .int .i64 (min (n : Int) 64), .int .i64 t] := by
        simp only [List.flatMap_cons, List.flatMap_nil, encH, List.append_nil]
        rw [show ((min n 64 : Nat) : Int) = min (n : Int) 64 by omega]
        rfl
      repeat' (first | (refine aw0m ?_) | (refine ap2 ?_ ?_ <;> first | exact True.intro | intro h) | ((with_reducible apply kx_call (f := 40) (cap := [])); exact goesOf Try.func40 (by kernel_rfl) rfl; rfl; rfl; exact (hok); (exact atks); rintro v' H' ⟨rfl, rfl⟩; all_goals ((try simp only [List.cons_append, List.nil_append]); (refine apk ?_))) | ((with_reducible apply kx_call (f := 37) (cap := [])); exact goesOf Try.func37 (by kernel_rfl) rfl; rfl; rfl; exact (h1); (exact atks); rintro v' H' ⟨rfl, v2, b2, hv2, rfl⟩; all_goals ((try simp only [List.cons_append, List.nil_append]); (refine apk ?_))) | ((with_reducible apply kx_call (f := 37) (cap := [])); exact goesOf Try.func37 (by kernel_rfl) rfl; rfl; rfl; exact (h2 _ _ hv2); (exact atks); rintro v' H' ⟨rfl, v3, b3, hv3, rfl⟩; all_goals ((try simp only [List.cons_append, List.nil_append]); (refine apk ?_))) | (first | ((with_reducible apply kx_append1); exact ty_el; exact ty_inf; rfl; rfl; rfl; (exact atk); (exact atk); rfl; omega; intro a' c'; (refine apk ?_)) | ((with_reducible apply kx_appendN); exact ty_el; exact ty_inf; rfl; rfl; rfl; rfl; (exact atk); (exact atk); rfl; rfl; omega; intro a' c'; (refine apk ?_))) | (refine aw1m ?_) | (refine abx ?_; intro bb) | (refine abz ?_; intro bz) | (refine ahv ?_; intro v' hv') | (refine aac ?_; intro ac cc) | (refine aw2 ?_) | (refine ap4 ?_ ?_ <;> first | exact True.intro | intro h) | (with_reducible refine tr_two ?_ ?_))
      rw [show D.length + 1 = (D ++ [(⟨doc + d, min n 64, t⟩ : HeadV)]).length by simp]
      exact ⟨_, (by omega), k, n - 64, doc + d, (n : Int) - 64, D ++ [⟨doc + d, min n 64, t⟩], s2, v3, b3, a', c', rfl, by rw [hR]; simp, by omega, by omega, by omega, by rw [List.length_append]; simp; omega, hv3, ⟨_, by rw [List.flatMap_append, hX]; (exact atks)⟩, rfl, (by first | rfl | exact congrArg some (congrArg (Value.int _) (by omega)) | (congr 2 <;> omega)), (by first | rfl | exact congrArg some (congrArg (Value.int _) (by omega)) | (congr 2 <;> omega)), (by first | rfl | exact congrArg some (congrArg (Value.int _) (by omega)) | (congr 2 <;> omega)), (by first | rfl | exact congrArg some (congrArg (Value.int _) (by omega)) | (congr 2 <;> omega)), (by first | rfl | exact congrArg some (congrArg (Value.int _) (by omega)) | (congr 2 <;> omega))⟩
    · have hr1 : headsR size (k + 1) n doc none = ([], none) := by rw [headsR, if_pos (.inr rfl)]
      rw [hr1, List.append_nil] at hR
      rw [hR] at HR
      repeat' (first | (refine aw0m ?_) | (refine ap2 ?_ ?_ <;> first | exact True.intro | intro h) | ((with_reducible apply kx_call (f := 40) (cap := [])); exact goesOf Try.func40 (by kernel_rfl) rfl; rfl; rfl; exact (hok); (exact atks); rintro v' H' ⟨rfl, rfl⟩; all_goals ((try simp only [List.cons_append, List.nil_append]); (refine apk ?_))) | (refine aw1m ?_) | (refine abx ?_; intro bb) | (refine abz ?_; intro bz) | (refine ahv ?_; intro v' hv') | (refine aac ?_; intro ac cc) | (refine aw2 ?_) | (refine ap4 ?_ ?_ <;> first | exact True.intro | intro h) | (with_reducible refine tr_two ?_ ?_))
      ((with_reducible apply fp_ret); exact res_1 rfl rfl)
      exact HR.out _ _ _ [_, _, _] (by (exact atks)) ⟨_, _, _, _, rfl, .inr ⟨rfl, rfl, x, hx⟩, rfl⟩
  · have hr1 : headsR size k n doc s = ([], s) := by
      obtain rfl : n = 0 := by omega
      cases k with
      | zero => rfl
      | succ k => rw [headsR, if_pos (.inl rfl)]
    rw [hr1, List.append_nil] at hR
    rw [hR] at HR
    repeat' (first | (refine aw0m ?_) | (refine ap2 ?_ ?_ <;> first | exact True.intro | intro h) | ((with_reducible apply kx_call (f := 40) (cap := [])); exact goesOf Try.func40 (by kernel_rfl) rfl; rfl; rfl; exact (hok); (exact atks); rintro v' H' ⟨rfl, rfl⟩; all_goals ((try simp only [List.cons_append, List.nil_append]); (refine apk ?_))) | (refine aw1m ?_) | (refine abx ?_; intro bb) | (refine abz ?_; intro bz) | (refine ahv ?_; intro v' hv') | (refine aac ?_; intro ac cc) | (refine aw2 ?_) | (refine ap4 ?_ ?_ <;> first | exact True.intro | intro h) | (with_reducible refine tr_two ?_ ?_))
    ((with_reducible apply fp_ret); exact res_1 rfl rfl)
    exact HR.out _ _ _ [_, _, _] (by (exact atks)) ⟨_, _, _, _, rfl, hv1, rfl⟩
end Go.Proofs.Ytkbajhiahpkgiaa
