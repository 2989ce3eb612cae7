
/- post.From: its contract; the order of grams. -/
import Derived.Test.YtkbajhiahpkgiaaGreatGp
import Derived.Test.YtkbajhiahpkgiaaGreatPz
import Derived.Test.YtkbajhiahpkgiaaGreatPq
import Derived.Sort.Walk0
namespace Go.Proofs.YtkbajhiahpkgiaaGreat
open Go.RowKit Sx

namespace Sx
section
variable {P : Program} {l : Option Nat} {r : Hp} {Q : Exit → St} {K : St} {t : List Value} {H : List Ch}
theorem sw_lendD {c : Code} {A : Ch} {H1 : List Ch} (ht : Take A H H1) (h : ∀ r' g, sub r r' → sub g r' → A g → SW P l r' c (fun e t' H' => Q e t' (A :: H')) t H1) : SW P l r c Q t H := by
  intro w h0 ds ok al
  obtain ⟨g, k, d, rfl, hg, hk⟩ := ht.all al
  refine wpIn_mono (h (un r g) g (fun b o e => un_left e) (fun b o e => un_right (dj_un.1 ok.dj).1 e) hg w k ds (ok.lend d) hk) ?_
  intro e a' w' p
  cases e with
  | panic _ => exact p.elim
  | outgrown => exact p.elim
  | _ =>
    obtain ⟨t', H', k', e1, h2, al', to'⟩ := p
    obtain ⟨d', tb⟩ := To.back ok d to'
    exact ⟨t', _, _, e1, h2, ⟨g, k', d', rfl, hg, al'⟩, tb⟩

end
end Sx
open Sx
theorem less_iff (a b : List UInt8) : Op.bytesLess a b = true ↔ a < b := by rw [bytesLess_eq, decide_eq_true_eq]
theorem less_tri {a b : List UInt8} (h : ¬ a < b) (k : ¬ a = b) : b < a := by
  rcases List.le_iff_lt_or_eq.1 (List.not_lt.1 h) with h | h
  · exact h
  · exact absurd h.symm k
theorem notless {a b : List UInt8} : (!(Op.bytesLess a b || decide (a = b))) = true ↔ b < a := by
  rw [Bool.not_eq_true', Bool.or_eq_false_iff, decide_eq_false_iff_not, ← Bool.not_eq_true, less_iff]
  constructor
  · rintro ⟨h1, h2⟩; exact less_tri h1 h2
  · intro h
    exact ⟨fun h2 => List.lt_asymm h h2, fun e => by subst e; exact List.lt_irrefl _ h⟩
theorem postsOk_rise : ∀ {ps : List PostP} {last : List UInt8}, postsOk last ps = true → (ps.map (·.1)).Pairwise (· < ·) ∧ ∀ x ∈ ps, last < x.1
  | [], _, _ => ⟨List.Pairwise.nil, fun x hx => by cases hx⟩
  | x :: ps, last, h => by
    rw [postsOk, Bool.and_eq_true, Bool.and_eq_true, notless] at h
    obtain ⟨h1, h2⟩ := postsOk_rise h.2
    refine ⟨List.Pairwise.cons (fun y hy => ?_) h1, fun y hy => ?_⟩
    · obtain ⟨z, hz, rfl⟩ := List.mem_map.1 hy
      exact h2 z hz
    · rcases List.mem_cons.1 hy with rfl | hy
      · exact h.1.2
      · exact List.lt_trans h.1.2 (h2 y hy)
/-- A gram's places from a document on. -/
def fromP (ps : List PostP) (g : List UInt8) (d : Int) : List PlaceV := ps.flatMap fun x => x.2.filter fun p => decide (x.1 = g) && decide (d ≤ p.doc)
theorem fromP_none {ps : List PostP} {g : List UInt8} {d : Int} (h : ∀ x ∈ ps, ¬ x.1 = g) : fromP ps g d = [] := by
  unfold fromP
  rw [List.flatMap_eq_nil_iff]
  intro x hx
  rw [List.filter_eq_nil_iff]
  intro p _
  rw [decide_eq_false (h x hx)]; simp
theorem fromP_at {A B : List PostP} {x : PostP} {g : List UInt8} {d : Int} (hg : x.1 = g) (hA : ∀ y ∈ A, ¬ y.1 = g) (hB : ∀ y ∈ B, ¬ y.1 = g) : fromP (A ++ x :: B) g d = x.2.filter fun p => decide (d ≤ p.doc) := by
  have h1 := fromP_none (d := d) hA
  have h2 := fromP_none (d := d) hB
  unfold fromP at h1 h2 ⊢
  rw [List.flatMap_append, List.flatMap_cons, h1, h2, List.nil_append, List.append_nil, decide_eq_true hg]
  simp
theorem mem_getD {α : Type} [Inhabited α] {l : List α} {x : α} (h : x ∈ l) : ∃ j, j < l.length ∧ l.getD j default = x := by
  obtain ⟨j, hj, e⟩ := List.mem_iff_getElem.1 h
  exact ⟨j, hj, by rw [List.getD_eq_getElem?_getD, List.getElem?_eq_getElem hj]; exact e⟩
theorem take_drop_at {α : Type} [Inhabited α] {l : List α} {i : Nat} (h : i < l.length) : l = l.take i ++ l.getD i default :: l.drop (i + 1) := by
  rw [List.getD_eq_getElem?_getD, List.getElem?_eq_getElem h, Option.getD_some, ← List.drop_eq_getElem_cons h, List.take_append_drop]
theorem filter_drop {l : List PlaceV} {d : Int} {i : Nat} (h : Ahead (fun j => cmpD (l.getD j default) d) l.length i) : (l.filter fun p => decide (d ≤ p.doc)) = l.drop i := by
  obtain ⟨h0, h1, h2⟩ := h
  have e : l.filter (fun p => decide (d ≤ p.doc)) = (l.take i ++ l.drop i).filter fun p => decide (d ≤ p.doc) := by rw [List.take_append_drop]
  rw [e, List.filter_append]
  have ea : (l.take i).filter (fun p => decide (d ≤ p.doc)) = [] := by
    rw [List.filter_eq_nil_iff]
    intro p hp
    obtain ⟨j, hj, rfl⟩ := List.mem_take_iff_getElem.1 hp
    have hji : j < i := by omega
    have h3 := h1 j hji
    dsimp only at h3
    rw [List.getD_eq_getElem?_getD, List.getElem?_eq_getElem (by omega : j < l.length), Option.getD_some] at h3
    unfold cmpD at h3
    split at h3
    · simp; omega
    · omega
  have eb : (l.drop i).filter (fun p => decide (d ≤ p.doc)) = l.drop i := by
    rw [List.filter_eq_self]
    intro p hp
    obtain ⟨j, hj, rfl⟩ := List.mem_drop_iff_getElem.1 hp
    have h3 := h2 (i + j) (by omega) (by omega)
    dsimp only at h3
    rw [List.getD_eq_getElem?_getD, List.getElem?_eq_getElem (by omega : i + j < l.length), Option.getD_some] at h3
    unfold cmpD at h3
    split at h3
    · omega
    · simp; omega
  rw [ea, eb, List.nil_append]
theorem rise_at {ps : List PostP} (h : (ps.map (·.1)).Pairwise (· < ·)) {i j : Nat} (hij : i < j) (hj : j < ps.length) : (ps.getD i default).1 < (ps.getD j default).1 := by
  have h1 := List.pairwise_iff_getElem.1 h i j (by rw [List.length_map]; omega) (by rw [List.length_map]; omega) hij
  rw [List.getElem_map, List.getElem_map] at h1
  rw [List.getD_eq_getElem?_getD, List.getElem?_eq_getElem (by omega : i < ps.length), List.getD_eq_getElem?_getD, List.getElem?_eq_getElem hj]
  exact h1
theorem cmpG_neg {a b : List UInt8} : cmpG a b < 0 ↔ a < b := by
  unfold cmpG
  rw [← less_iff]
  constructor
  · intro h
    split at h
    · assumption
    · split at h <;> omega
  · intro h; rw [if_pos h]; omega
theorem cmpG_zero {a b : List UInt8} : cmpG a b = 0 ↔ a = b := by
  unfold cmpG
  constructor
  · intro h
    split at h
    · omega
    · split at h
      · assumption
      · omega
  · intro h
    subst h
    rw [if_neg (by rw [less_iff]; exact List.lt_irrefl _), if_pos rfl]
theorem search_none {xs : List PostV} {g : List UInt8} {d : Int} {i : Nat} (h : Ahead (fun j => cmpG (xs.getD j default).gram g) xs.length i) (hr : ((xs.map unP).map (·.1)).Pairwise (· < ·)) (hi : ¬ (i < xs.length ∧ cmpG (xs.getD i default).gram g = 0)) : fromP (xs.map unP) g d = [] := by
  obtain ⟨h0, h1, h2⟩ := h
  refine fromP_none fun x hx => ?_
  obtain ⟨j, hj, rfl⟩ := mem_getD hx
  rw [List.length_map] at hj
  rw [map_getD hj]
  intro e
  have e' : (xs.getD j default).gram = g := e
  by_cases c : j < i
  · have h3 := cmpG_neg.1 (h1 j c)
    rw [e'] at h3
    exact List.lt_irrefl _ h3
  · by_cases c2 : j = i
    · subst c2; exact hi ⟨hj, cmpG_zero.2 e'⟩
    · have h4 := rise_at hr (i := i) (j := j) (by omega) (by rw [List.length_map]; omega)
      rw [map_getD (by omega), map_getD hj] at h4
      have h5 : (xs.getD i default).gram < g := by rw [← e']; exact h4
      have h6 := h2 i (Nat.le_refl _) (by omega)
      have h7 := cmpG_neg.2 h5
      dsimp only at h6
      omega
theorem search_some {xs : List PostV} {g : List UInt8} {d : Int} {i : Nat} (hr : ((xs.map unP).map (·.1)).Pairwise (· < ·)) (hi : i < xs.length) (hg : cmpG (xs.getD i default).gram g = 0) : fromP (xs.map unP) g d = (xs.getD i default).pl.filter fun p => decide (d ≤ p.doc) := by
  have hg' := cmpG_zero.1 hg
  have hi2 : i < (xs.map unP).length := by rw [List.length_map]; exact hi
  rw [take_drop_at hi2]
  have e := map_getD hi
  have hne : ∀ j, j < xs.length → j ≠ i → ¬ ((xs.map unP).getD j default).1 = g := by
    intro j hj hji e2
    rcases Nat.lt_or_gt_of_ne hji with c | c
    · have h4 := rise_at hr c hi2
      rw [e2, e] at h4
      rw [show (unP (xs.getD i default)).1 = g from hg'] at h4
      exact List.lt_irrefl _ h4
    · have h4 := rise_at hr c (by rw [List.length_map]; exact hj)
      rw [e2, e] at h4
      rw [show (unP (xs.getD i default)).1 = g from hg'] at h4
      exact List.lt_irrefl _ h4
  rw [e]
  refine fromP_at (x := unP (xs.getD i default)) hg' (fun y hy => ?_) (fun y hy => ?_)
  · obtain ⟨j, hj, rfl⟩ := List.mem_take_iff_getElem.1 hy
    have h3 := hne j (by rw [List.length_map] at hj; omega) (by omega)
    rw [List.getD_eq_getElem?_getD, List.getElem?_eq_getElem (by omega : j < (xs.map unP).length)] at h3
    exact h3
  · obtain ⟨j, hj, rfl⟩ := List.mem_drop_iff_getElem.1 hy
    have h3 := hne (i + 1 + j) (by rw [List.length_map] at hj; omega) (by omega)
    rw [List.getD_eq_getElem?_getD, List.getElem?_eq_getElem (by omega : i + 1 + j < (xs.map unP).length)] at h3
    exact h3
theorem septs_pos (n : Nat) : 1 ≤ (septs n).length := List.length_pos_iff.2 (septs_ne n)
theorem blockB_ge2 : ∀ (l : List PlaceV) (a : PlaceV), l.length ≤ (blockB a l).length
  | [], _ => Nat.zero_le _
  | p :: l, a => by
    have ih := blockB_ge2 l p
    have h1 := septs_pos (p.doc - a.doc).toNat
    rw [blockB, List.length_append, List.length_append, List.length_cons]; omega
theorem blocks_ge2 : ∀ cs : List (List PlaceV), cs.flatten.length ≤ (cs.flatMap block1).length
  | [] => Nat.le_refl _
  | c :: cs => by
    have h1 := blocks_ge2 cs
    have h2 : c.length ≤ (block1 c).length := blockB_ge2 c _
    rw [List.flatten_cons, List.flatMap_cons, List.length_append, List.length_append]; omega
theorem postB_ge2 {x : PostP} (h : postOk x = true) : x.2.length ≤ (postB x).length := by
  have h1 := (chunks_all _ x.2 _ (Nat.le_refl _) (postOk_chain h).1).1
  have h2 := blocks_ge2 (chunks x.2)
  rw [h1] at h2
  unfold postB
  rw [List.length_append, List.length_append]; omega
theorem putB_ge2 : ∀ ps : List PostP, (∀ x ∈ ps, postOk x = true) → ps.length ≤ (ps.flatMap fun x => texts (postB x)).length ∧ ∀ x ∈ ps, x.2.length ≤ (ps.flatMap fun x => texts (postB x)).length
  | [], _ => ⟨Nat.le_refl _, fun x hx => by cases hx⟩
  | y :: ps, h => by
    obtain ⟨h1, h2⟩ := putB_ge2 ps fun x hx => h x (List.mem_cons_of_mem _ hx)
    have h3 := postB_ge2 (h y List.mem_cons_self)
    have h4 : 1 + (postB y).length ≤ (texts (postB y)).length := by
      unfold texts; rw [List.length_append]
      have := septs_pos (postB y).length
      omega
    rw [List.flatMap_cons, List.length_append, List.length_cons]
    refine ⟨by omega, fun x hx => ?_⟩
    rcases List.mem_cons.1 hx with rfl | hx
    · omega
    · have := h2 x hx; omega
theorem getP_small {b : List UInt8} {ps : List PostP} (h : getP b = some ps) : ps.length ≤ b.length ∧ ∀ x ∈ ps, x.2.length ≤ b.length := by
  obtain ⟨h1, h2⟩ := getP_inv h
  obtain ⟨h3, h4⟩ := putB_ge2 ps (postsOk_mem h2)
  have e : (ps.flatMap fun x => texts (postB x)).length ≤ b.length := by
    rw [← h1]; unfold putB; rw [List.length_append]; omega
  exact ⟨by omega, fun x hx => Nat.le_trans (h4 x hx) e⟩
set_option maxRecDepth 10000 in
set_option maxHeartbeats 2000000 in
theorem from_post_any (r : Hp) (v : Value) (b : List UInt8) (gr : List UInt8) (d : Int) (hv : U8S r v b) (hb : b.length ≤ 200000) : Tri Tryz.prog r 18 [v, .string (bs gr), .int .i64 d] [] fun w H => ∃ pv, ∃ A : Ch, w = .tuple #[pv, .int .i64 (if (getP b).isSome then 0 else 9)] ∧ H = [A] ∧ ∀ g r', A g → sub g r' → Els r' 2 encPl pv (fromP ((getP b).getD []) gr d) := by
  refine Tri.free2 fun R HR => ?_
  have hget := get_post_any r v b hv hb
  have hok : postsOk [] ((getP b).getD []) = true := by
    cases h : getP b with
    | none => rfl
    | some ps => exact (getP_inv h).2
  have hpn : ((getP b).getD []).length ≤ 200000 := by
    cases h : getP b with
    | none => exact Nat.zero_le _
    | some ps => exact Nat.le_trans (getP_small h).1 hb
  have hpb : ∀ x ∈ (getP b).getD [], x.2.length ≤ 200000 := by
    cases h : getP b with
    | none => exact fun x hx => by cases hx
    | some ps => exact fun x hx => Nat.le_trans ((getP_small h).2 x hx) hb
  generalize (getP b).getD [] = ps at hget hok hpn HR hpb
  generalize (if (getP b).isSome then (0 : Int) else 9) = e at hget HR
  refine fn_of_sw Tryz.func18 rfl _ rfl ?_; refine aen Tryz.ntmps18 ?_
  repeat' (first | (refine acl Tryz.func16 ?_; refine acr (hget) ?_; rintro v' H' ⟨a, c, rfl, rfl⟩; all_goals refine apl ?_) | ((with_reducible apply sw_open (A := PostC 53 56 (.slice a ps.length c) ps) (ι := List PZ) (B := fun Z => [PZC 53 56 (.slice a ps.length c) Z]) (φ := fun Z => Z.map (·.1) = ps)); (with_reducible (exact atk)); (exact fun h ⟨Z, h1, h2⟩ => ⟨Z, h1, all_one.2 h2⟩); (rintro Z hZ); (simp only [List.nil_append, List.cons_append])) | ((with_reducible apply sw_lendD (A := PZC 53 56 (.slice a ps.length c) Z)); (with_reducible (exact atk)); intro r1 g1 hr1 hg1 hA1) | refine aw0 ?_ | (refine ap2 ?_ ?_ <;> try intro h) | refine aw1 ?_ | (refine abx ?_; intro bb) | (refine abz ?_; intro bz) | (refine ahv ?_; intro v' hv') | (refine aac ?_; intro ac cc) | refine aw2 ?_ | (refine ap4 ?_ ?_ <;> try intro h) | apply True.intro)
  have hk : Z.length = ps.length := by rw [← hZ, List.length_map]
  obtain ⟨hx1, hP⟩ := pzc_posts hA1 hg1 hk
  have hall : ∀ g r', PZC 53 56 (.slice a ps.length c) Z g → sub g r' → Posts r' (.slice a ps.length c) (Z.map pvZ) := fun g r' h hs => (pzc_posts h hs hk).2
  rw [hZ] at hx1
  have hxl : (Z.map pvZ).length = ps.length := by rw [List.length_map, hk]
  generalize Z.map pvZ = xs at hx1 hP hxl hall
  have hr := (postsOk_rise hok).1
  rw [← hx1] at hr
  have hmono : ∀ a b, a ≤ b → b < xs.length → cmpG (xs.getD b default).gram gr < 0 → cmpG (xs.getD a default).gram gr < 0 := by
    intro a b hab hb h
    rcases Nat.lt_or_eq_of_le hab with c | c
    · have h4 := rise_at hr c (by rw [List.length_map]; exact hb)
      rw [map_getD (by omega), map_getD hb] at h4
      exact cmpG_neg.2 (List.lt_trans h4 (cmpG_neg.1 h))
    · rw [c]; exact h
  have hs1 := search1_any r1 (.slice a ps.length c) xs gr hP (by omega) hmono
  repeat' (first | (refine acl Tryz.func51 ?_; refine acr (hs1) ?_; rintro v' H' ⟨i, hi, rfl, rfl⟩; all_goals refine apl ?_) | refine aw0 ?_ | (refine ap2 ?_ ?_ <;> try intro h) | refine aw1 ?_ | (refine abx ?_; intro bb) | (refine abz ?_; intro bz) | (refine ahv ?_; intro v' hv') | (refine aac ?_; intro ac cc) | refine aw2 ?_ | (refine ap4 ?_ ?_ <;> try intro h) | apply True.intro)
  · have hc := h
    have hf : fromP ps gr d = [] := by
      rw [← hx1]
      exact search_none hi hr (by simpa using hc)
    rw [hf] at HR
    ((with_reducible apply fp_ret); exact res_2 rfl rfl rfl)
    exact HR.out _ _ _ [PZC 53 56 (.slice a ps.length c) Z] (by (exact atks)) ⟨.slice none 0 0, _, rfl, rfl, fun g r' _ _ => ⟨fun _ => rfl, Sl.nil _ 2⟩⟩
  · have hc := h
    obtain ⟨hi1, hi2⟩ : i < xs.length ∧ cmpG (xs.getD i default).gram gr = 0 := by simpa using hc
    have hm := getD_mem hi1
    have hpx := hP.2 _ hm
    have hpo := postsOk_mem hok (unP (xs.getD i default)) (by rw [← hx1]; exact List.mem_map_of_mem hm)
    have hch : chainP ⟨-1, 0⟩ (xs.getD i default).pl = true := (postOk_chain hpo).1
    have hpl : (xs.getD i default).pl.length ≤ 200000 := hpb (unP (xs.getD i default)) (by rw [← hx1]; exact List.mem_map_of_mem hm)
    have hf : fromP ps gr d = (xs.getD i default).pl.filter fun p => decide (d ≤ p.doc) := by
      rw [← hx1]
      exact search_some hr hi1 hi2
    have hPe := hP.1
    have hmono2 : ∀ a b, a ≤ b → b < (xs.getD i default).pl.length → cmpD ((xs.getD i default).pl.getD b default) d < 0 → cmpD ((xs.getD i default).pl.getD a default) d < 0 := by
      intro a b hab hb h
      unfold cmpD at h ⊢
      rcases Nat.lt_or_eq_of_le hab with c | c
      · have h4 := chain_mono hch c hb
        split at h
        · rw [if_pos (by omega)]; omega
        · omega
      · rw [c]; exact h
    have hs2 := search2_any r1 (xs.getD i default).val (xs.getD i default).pl d hpx (by omega) hmono2
    have hrd : ∀ g r', PZC 53 56 (.slice a ps.length c) Z g → sub g r' → Els r' 2 encPl (xs.getD i default).val (xs.getD i default).pl := fun g r' h hs => (hall g r' h hs).2 _ hm
    repeat' (first | (refine acl Tryz.func53 ?_; refine acr (hs2) ?_; rintro v' H' ⟨i2, hi2', rfl, rfl⟩; all_goals refine apl ?_) | ((with_reducible apply swo_pur); (with_reducible apply pu_sl (sz := 2)); rfl; exact hpx.2; exact bds_sn rfl; (have hle := hi2'.1; omega); (refine apk ?_)) | refine aw0 ?_ | (refine ap2 ?_ ?_ <;> try intro h) | refine aw1 ?_ | (refine abx ?_; intro bb) | (refine abz ?_; intro bz) | (refine ahv ?_; intro v' hv') | (refine aac ?_; intro ac cc) | refine aw2 ?_ | (refine ap4 ?_ ?_ <;> try intro h) | apply True.intro)
    have hle := hi2'.1
    rw [filter_drop hi2'] at hf
    rw [hf] at HR
    ((with_reducible apply fp_ret); exact res_2 rfl rfl rfl)
    refine HR.out _ _ _ [PZC 53 56 (.slice a ps.length c) Z] (by (exact atks)) ⟨_, _, rfl, rfl, fun g r' h hs => ?_⟩
    have h1 := (hrd g r' h hs).cut (i := i2) (j := (xs.getD i default).pl.length) hle (Nat.le_refl _)
    rw [List.take_of_length_le (by rw [List.length_drop]; omega)] at h1
    exact h1
end Go.Proofs.YtkbajhiahpkgiaaGreat
