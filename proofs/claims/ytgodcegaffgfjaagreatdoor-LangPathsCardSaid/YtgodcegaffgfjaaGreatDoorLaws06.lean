
/- mudlarklaw06: awake, LangTells, LangJoins: their walks. -/
import Derived.Test.YtgodcegaffgfjaaGreatDoorOf
namespace Go.Proofs.YtgodcegaffgfjaaGreatDoor
open Go.RowKit Go.Shelf

theorem splitL_all (q : UInt8 → Bool) (h47 : q 47 = true) (l : List UInt8) : (splitL l).all (fun p => p.all q) = l.all q := by
  induction l with
  | nil => rfl
  | cons b l ih =>
    unfold splitL
    split
    · rename_i h; subst h; simp [ih, h47]
    · rename_i h
      split
      · rename_i p ps hs; rw [hs] at ih; rw [List.all_cons] at ih; rw [List.all_cons, List.all_cons, List.all_cons, ← ih, Bool.and_assoc]
      · rename_i hs; exact absurd hs (splitL_ne l)

theorem all_and {α : Type} (p q : α → Bool) (l : List α) : l.all (fun x => p x && q x) = (l.all p && l.all q) := by
  induction l with
  | nil => rfl
  | cons a l ih => simp only [List.all_cons, ih]; cases p a <;> cases q a <;> simp

theorem pathOk_ref (s : List UInt8) : pathOk s = refOk s := by
  have h : (splitL s).all partOk = ((splitL s).all nameOk && s.all byteOk) := by
    rw [← splitL_all byteOk rfl s, ← all_and]; rfl
  rw [pathOk, refOk, h]
  cases (splitL s).all nameOk <;> cases s.all byteOk <;> simp

set_option maxRecDepth 100000 in
set_option maxHeartbeats 1000000 in
theorem awake_any (w : World) : Calls Tryz.prog 12 #[] w fun e w' => e = .returned (.bool true) ∧ Ext Nil w w' := by
  refine calls_opq fun R HR => ?_
  have hx0 : Ext Nil w w := Ext.refl _ _
  go_enter Tryz.func12, Tryz.ntmps12
  repeat' (first | (go_big_may; (fail); (try dsimp only); try simp only [World.size_alloc]) | go_values | go_skip | go_guarded | go_step | go_upon | go_back | ((with_reducible refine upon_id ?_); go_simp))
  refine (right_any ⟨#[97, 47, 98, 46, 103, 111]⟩ _ (by decide)).mono ?_
  rw [show pathOk _ = true from by decide]
  rintro e w' ⟨rfl, hx⟩
  replace hx0 := hx0.trans hx
  clear hx
  dsimp only
  repeat' (first | (go_big_may; (fail); (try dsimp only); try simp only [World.size_alloc]) | go_values | go_skip | go_guarded | go_step | go_upon | go_back | ((with_reducible refine upon_id ?_); go_simp))
  refine (of_any ⟨#[97, 47, 98, 46, 103, 111]⟩ _ (by decide)).mono ?_
  rw [show bs (langOf _) = ⟨#[103, 111]⟩ from congrArg bs (show langOf _ = [103, 111] from by decide +kernel)]
  rintro e w' ⟨rfl, hx⟩
  replace hx0 := hx0.trans hx
  clear hx
  dsimp only
  repeat' (first | (go_big_may; (fail); (try dsimp only); try simp only [World.size_alloc]) | go_values | go_skip | go_guarded | go_step | go_upon | go_back | ((with_reducible refine upon_id ?_); go_simp))
  refine (right_any ⟨#[46, 103, 111]⟩ _ (by decide)).mono ?_
  rw [show pathOk _ = true from by decide]
  rintro e w' ⟨rfl, hx⟩
  replace hx0 := hx0.trans hx
  clear hx
  dsimp only
  repeat' (first | (go_big_may; (fail); (try dsimp only); try simp only [World.size_alloc]) | go_values | go_skip | go_guarded | go_step | go_upon | go_back | ((with_reducible refine upon_id ?_); go_simp))
  refine (of_any ⟨#[46, 103, 111]⟩ _ (by decide)).mono ?_
  rw [show bs (langOf _) = ⟨#[]⟩ from congrArg bs (show langOf _ = [] from by decide +kernel)]
  rintro e w' ⟨rfl, hx⟩
  replace hx0 := hx0.trans hx
  clear hx
  dsimp only
  repeat' (first | (go_big_may; (fail); (try dsimp only); try simp only [World.size_alloc]) | go_values | go_skip | go_guarded | go_step | go_upon | go_back | ((with_reducible refine upon_id ?_); go_simp))
  refine (right_any ⟨#[97, 47, 47, 98]⟩ _ (by decide)).mono ?_
  rw [show pathOk _ = false from by decide]
  rintro e w' ⟨rfl, hx⟩
  replace hx0 := hx0.trans hx
  clear hx
  dsimp only
  repeat' (first | (go_big_may; (fail); (try dsimp only); try simp only [World.size_alloc]) | go_values | go_skip | go_guarded | go_step | go_upon | go_back | ((with_reducible refine upon_id ?_); go_simp))
  refine (right_any ⟨#[46, 46, 47, 97]⟩ _ (by decide)).mono ?_
  rw [show pathOk _ = false from by decide]
  rintro e w' ⟨rfl, hx⟩
  replace hx0 := hx0.trans hx
  clear hx
  dsimp only
  repeat' (first | (go_big_may; (fail); (try dsimp only); try simp only [World.size_alloc]) | go_values | go_skip | go_guarded | go_step | go_upon | go_back | ((with_reducible refine upon_id ?_); go_simp))
  refine (of_any ⟨#[120, 46, 116, 97, 114, 46, 109, 100]⟩ _ (by decide)).mono ?_
  rw [show bs (langOf _) = ⟨#[109, 97, 114, 107, 100, 111, 119, 110]⟩ from congrArg bs (show langOf _ = [109, 97, 114, 107, 100, 111, 119, 110] from by decide +kernel)]
  rintro e w' ⟨rfl, hx⟩
  replace hx0 := hx0.trans hx
  clear hx
  dsimp only
  repeat' (first | (go_big_may; (fail); (try dsimp only); try simp only [World.size_alloc]) | go_values | go_skip | go_guarded | go_step | go_upon | go_back | ((with_reducible refine upon_id ?_); go_simp))
  exact HR.out _ _ ⟨rfl, hx0⟩

set_option maxRecDepth 100000 in
set_option maxHeartbeats 1000000 in
theorem langTells_any (s : ByteArray) (w : World) (hs : s.size ≤ maxLen) : Calls Tryz.prog 4 #[.string s] w fun e w' => e = .returned (.bool true) ∧ Ext Nil w w' := by
  refine calls_opq fun R HR => ?_
  unfold maxLen at hs
  go_enter Tryz.func4, Tryz.ntmps4
  by_cases hl : 4000 < s.size
  · repeat' (first | (go_big_may; (go_at_call 12; refine (awake_any _).mono ?_; rintro e w' ⟨rfl, hx⟩); (try dsimp only); try simp only [World.size_alloc]) | go_values | go_skip | go_guarded | go_step | go_upon | go_back | ((with_reducible refine upon_id ?_); go_simp))
    exact HR.out _ _ ⟨rfl, hx⟩
  · have hrr := pathOk_ref s.data.toList
    have HRR := hid hrr
    clear hrr
    repeat' (first | (go_big_may; (fail); (try dsimp only); try simp only [World.size_alloc]) | go_values | go_skip | go_guarded | go_step | go_upon | go_back | ((with_reducible refine upon_id ?_); go_simp))
    refine (awake_any _).mono ?_
    rintro e w1 ⟨rfl, hx1⟩
    dsimp only
    repeat' (first | (go_big_may; (fail); (try dsimp only); try simp only [World.size_alloc]) | go_values | go_skip | go_guarded | go_step | go_upon | go_back | ((with_reducible refine upon_id ?_); go_simp))
    refine (right_any s _ (by omega)).mono ?_
    rintro e w2 ⟨rfl, hx2⟩
    dsimp only
    repeat' (first | (go_big_may; (fail); (try dsimp only); try simp only [World.size_alloc]) | go_values | go_skip | go_guarded | go_step | go_upon | go_back | ((with_reducible refine upon_id ?_); go_simp))
    refine (refRight_any s _ (by omega)).mono ?_
    rw [← HRR.out]
    generalize pathOk s.data.toList = b
    rintro e w3 ⟨rfl, hx3⟩
    dsimp only
    have hbb : (b == b) = true := by simp
    repeat' (first | (go_big_may; (fail); (try dsimp only); try simp only [World.size_alloc]) | go_values | go_skip | go_guarded | go_step | go_upon | go_back | ((with_reducible refine upon_id ?_); go_simp))
    refine (of_any s _ (by omega)).mono ?_
    rintro e w4 ⟨rfl, hx4⟩
    dsimp only
    repeat' (first | (go_big_may; (fail); (try dsimp only); try simp only [World.size_alloc]) | go_values | go_skip | go_guarded | go_step | go_upon | go_back | ((with_reducible refine upon_id ?_); go_simp))
    refine (refOf_any s _ (by omega)).mono ?_
    generalize bs (langOf s.data.toList) = l
    rintro e w5 ⟨rfl, hx5⟩
    dsimp only
    have hbb : (l.toList == l.toList) = true := by simp
    repeat' (first | (go_big_may; (fail); (try dsimp only); try simp only [World.size_alloc]) | go_values | go_skip | go_guarded | go_step | go_upon | go_back | ((with_reducible refine upon_id ?_); go_simp))
    exact HR.out _ _ ⟨rfl, (((hx1.trans hx2).trans hx3).trans hx4).trans hx5⟩
end Go.Proofs.YtgodcegaffgfjaaGreatDoor
