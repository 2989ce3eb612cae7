/- mudlarklaw06: awake, LangTells, LangJoins: their walks. -/
import Derived.Test.YtkbajhiahpkgiaaOf
namespace Go.Proofs.Ytkbajhiahpkgiaa
open Go.RowKit Go.Shelf

theorem splitL_all (q : UInt8 → Bool) (h47 : q 47 = true) (l : List UInt8) : (splitL l).all (fun p => p.all q) = l.all q := by
  induction l with
  | nil => rfl
  | cons b l ih =>
    unfold splitL
    split
    · rename_i h; subst h; simp [ih, h47]
    · rename_i h
      split
      · rename_i p ps hs; rw [hs] at ih; rw [List.all_cons] at ih; rw [List.all_cons, List.all_cons, List.all_cons, ← ih, Bool.and_assoc]
      · rename_i hs; exact absurd hs (splitL_ne l)

theorem all_and {α : Type} (p q : α → Bool) (l : List α) : l.all (fun x => p x && q x) = (l.all p && l.all q) := by
  induction l with
  | nil => rfl
  | cons a l ih => simp only [List.all_cons, ih]; cases p a <;> cases q a <;> simp

theorem pathOk_ref (s : List UInt8) : pathOk s = refOk s := by
  have h : (splitL s).all partOk = ((splitL s).all nameOk && s.all byteOk) := by
    rw [← splitL_all byteOk rfl s, ← all_and]; rfl
  rw [pathOk, refOk, h]
  cases (splitL s).all nameOk <;> cases s.all byteOk <;> simp

theorem splitL_join (a b : List UInt8) : splitL (a ++ 47 :: b) = splitL a ++ splitL b := by
  induction a with
  | nil => simp [splitL]
  | cons x a ih =>
    by_cases hx : x = 47
    · subst hx; rw [List.cons_append, splitL, if_pos rfl, ih, splitL, if_pos rfl]; simp
    · rw [List.cons_append, splitL, if_neg hx, ih, splitL, if_neg hx]
      cases hs : splitL a with
      | nil => exact absurd hs (splitL_ne a)
      | cons p ps => simp

theorem pathOk_pos {s : List UInt8} (h : (splitL s).all partOk = true) : 0 < s.length := by
  cases s with
  | nil => simp [splitL, partOk, nameOk] at h
  | cons => simp

theorem pathOk_join (a b : List UInt8) : pathOk (a ++ 47 :: b) = (pathOk a && pathOk b && decide ((a ++ 47 :: b).length ≤ 200)) := by
  unfold pathOk
  rw [splitL_join, List.all_append]
  cases ha : (splitL a).all partOk
  · simp
  · cases hb : (splitL b).all partOk
    · simp
    · have h1 := pathOk_pos ha
      have h2 := pathOk_pos hb
      by_cases h : (a ++ 47 :: b).length ≤ 200
      · have h3 : a.length ≤ 200 := by simp at h; omega
        have h4 : b.length ≤ 200 := by simp at h; omega
        have h5 : 0 < (a ++ 47 :: b).length := by simp; omega
        rw [decide_eq_true h1, decide_eq_true h2, decide_eq_true h3, decide_eq_true h4, decide_eq_true h, decide_eq_true h5]; rfl
      · rw [decide_eq_false h]; simp

theorem langOf_join (a b : List UInt8) : langOf (a ++ 47 :: b) = langOf b := by
  have : lastPart (a ++ 47 :: b) = lastPart b := by
    unfold lastPart
    simp only [splitL_join]
    rw [List.getLast_append_of_ne_nil _ (splitL_ne b)]
  unfold langOf
  rw [this]

set_option maxRecDepth 100000 in
set_option maxHeartbeats 1000000 in
theorem awake_any (w : World) : Calls Try.prog 6 #[] w fun e w' => e = .returned (.bool true) ∧ Ext Nil w w' := by
  refine calls_opq fun R HR => ?_
  have hx0 : Ext Nil w w := Ext.refl _ _
  go_enter Try.func6, Try.ntmps6
  repeat' (first | (go_big_may; (fail); (try dsimp only); try simp only [World.size_alloc]) | go_values | go_skip | go_guarded | go_step | go_upon | go_back | ((with_reducible refine upon_id ?_); go_simp))
  refine (right_any ⟨#[97, 47, 98, 46, 103, 111]⟩ _ (by decide)).mono ?_
  rw [show pathOk _ = true from by decide]
  rintro e w' ⟨rfl, hx⟩
  replace hx0 := hx0.trans hx
  clear hx
  dsimp only
  repeat' (first | (go_big_may; (fail); (try dsimp only); try simp only [World.size_alloc]) | go_values | go_skip | go_guarded | go_step | go_upon | go_back | ((with_reducible refine upon_id ?_); go_simp))
  refine (of_any ⟨#[97, 47, 98, 46, 103, 111]⟩ _ (by decide)).mono ?_
  rw [show bs (langOf _) = ⟨#[103, 111]⟩ from congrArg bs (show langOf _ = [103, 111] from by decide +kernel)]
  rintro e w' ⟨rfl, hx⟩
  replace hx0 := hx0.trans hx
  clear hx
  dsimp only
  repeat' (first | (go_big_may; (fail); (try dsimp only); try simp only [World.size_alloc]) | go_values | go_skip | go_guarded | go_step | go_upon | go_back | ((with_reducible refine upon_id ?_); go_simp))
  refine (right_any ⟨#[46, 103, 111]⟩ _ (by decide)).mono ?_
  rw [show pathOk _ = true from by decide]
  rintro e w' ⟨rfl, hx⟩
  replace hx0 := hx0.trans hx
  clear hx
  dsimp only
  repeat' (first | (go_big_may; (fail); (try dsimp only); try simp only [World.size_alloc]) | go_values | go_skip | go_guarded | go_step | go_upon | go_back | ((with_reducible refine upon_id ?_); go_simp))
  refine (of_any ⟨#[46, 103, 111]⟩ _ (by decide)).mono ?_
  rw [show bs (langOf _) = ⟨#[]⟩ from congrArg bs (show langOf _ = [] from by decide +kernel)]
  rintro e w' ⟨rfl, hx⟩
  replace hx0 := hx0.trans hx
  clear hx
  dsimp only
  repeat' (first | (go_big_may; (fail); (try dsimp only); try simp only [World.size_alloc]) | go_values | go_skip | go_guarded | go_step | go_upon | go_back | ((with_reducible refine upon_id ?_); go_simp))
  refine (right_any ⟨#[97, 47, 47, 98]⟩ _ (by decide)).mono ?_
  rw [show pathOk _ = false from by decide]
  rintro e w' ⟨rfl, hx⟩
  replace hx0 := hx0.trans hx
  clear hx
  dsimp only
  repeat' (first | (go_big_may; (fail); (try dsimp only); try simp only [World.size_alloc]) | go_values | go_skip | go_guarded | go_step | go_upon | go_back | ((with_reducible refine upon_id ?_); go_simp))
  refine (right_any ⟨#[46, 46, 47, 97]⟩ _ (by decide)).mono ?_
  rw [show pathOk _ = false from by decide]
  rintro e w' ⟨rfl, hx⟩
  replace hx0 := hx0.trans hx
  clear hx
  dsimp only
  repeat' (first | (go_big_may; (fail); (try dsimp only); try simp only [World.size_alloc]) | go_values | go_skip | go_guarded | go_step | go_upon | go_back | ((with_reducible refine upon_id ?_); go_simp))
  refine (of_any ⟨#[120, 46, 116, 97, 114, 46, 109, 100]⟩ _ (by decide)).mono ?_
  rw [show bs (langOf _) = ⟨#[109, 97, 114, 107, 100, 111, 119, 110]⟩ from congrArg bs (show langOf _ = [109, 97, 114, 107, 100, 111, 119, 110] from by decide +kernel)]
  rintro e w' ⟨rfl, hx⟩
  replace hx0 := hx0.trans hx
  clear hx
  dsimp only
  repeat' (first | (go_big_may; (fail); (try dsimp only); try simp only [World.size_alloc]) | go_values | go_skip | go_guarded | go_step | go_upon | go_back | ((with_reducible refine upon_id ?_); go_simp))
  exact HR.out _ _ ⟨rfl, hx0⟩

end Go.Proofs.Ytkbajhiahpkgiaa
