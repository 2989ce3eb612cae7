
/- mudlarklaw17.awake: its contract. -/
import Derived.Test.YtdccjfabdfgomaaGreatDoorOy
namespace Go.Proofs.YtdccjfabdfgomaaGreatDoor
open Go.RowKit Go.Maps Sx

/-! The chapter's examples in plain words. -/
def cdN : Nd := .mk 3 [0, 103079215104, 0, 0] [] 0 0 false 0
def allN : Nd := .mk 3 [18446744073709551615, 18446744073709551615, 18446744073709551615, 18446744073709551615] [] 0 0 false 0
def starN : Nd := .mk 6 [0, 0, 0, 0] [allN] 0 (-1) false 0
def exA : Nd := .mk 4 [0, 0, 0, 0] [oneN 97, oneN 98, cdN] 0 0 false 0
def exB : Nd := .mk 4 [0, 0, 0, 0] [oneN 97, starN, textN [98, 99, 100]] 0 0 false 0
theorem of_cd : ofI cdN = exactI [[99], [100]] := by
  have h : bytesOf [0, 103079215104, 0, 0] = [[99], [100]] := by decide +kernel
  unfold cdN ofI
  rw [if_neg (by omega), if_pos rfl]
  unfold setI
  rw [h]; rfl
theorem of_star : ofI starN = openI := by
  unfold starN ofI repeatI
  rw [if_neg (by omega), if_neg (by omega), if_neg (by omega), if_neg (by omega), if_pos rfl, if_neg (by omega), if_neg (by omega), if_neg (by omega), if_pos (by omega)]
theorem ofA_eq : ofI exA = ⟨true, [[97, 98, 99], [97, 98, 100]], [], [], allQ⟩ := by
  unfold exA
  rw [ofI_cat]
  simp only [ofIs]
  rw [of_one, of_one, of_cd]
  kernel_rfl
theorem ofB_eq : ofI exB = ⟨false, [], [[97]], [[99, 100]], .mk 3 [[98, 99, 100]] []⟩ := by
  unfold exB
  rw [ofI_cat]
  simp only [ofIs]
  rw [of_one, of_star, of_text]
  kernel_rfl
def txtA : Tx := [40, 54, 49, 54, 50, 54, 51, 124, 54, 49, 54, 50, 54, 52, 41]
def txtB : Tx := [40, 54, 50, 54, 51, 54, 52, 41]
theorem clA : closedK ⟨true, [[97, 98, 99], [97, 98, 100]], [], [], allQ⟩ = .mk 4 [[97, 98, 99], [97, 98, 100]] [] := by kernel_rfl
theorem clB : closedK ⟨false, [], [[97]], [[99, 100]], .mk 3 [[98, 99, 100]] []⟩ = .mk 3 [[98, 99, 100]] [] := by kernel_rfl
theorem tA : textQ (.mk 4 [[97, 98, 99], [97, 98, 100]] []) = txtA := by kernel_rfl
theorem tB : textQ (.mk 3 [[98, 99, 100]] []) = txtB := by kernel_rfl
theorem foldA : FoldOk (exactI [[]]) ([oneN 97, oneN 98, cdN].map ofI) := by
  simp only [List.map_cons, List.map_nil]
  rw [of_one, of_one, of_cd]
  intro j h1 h2
  have hj : j = 1 ∨ j = 2 := by simp at h2; omega
  rcases hj with rfl | rfl
  · exact ⟨⟨by decide +kernel, by decide +kernel, by decide +kernel, by decide +kernel, by decide +kernel⟩, ⟨by decide +kernel, by decide +kernel, by decide +kernel, by decide +kernel, by decide +kernel⟩, ⟨by decide +kernel, by decide +kernel, by decide +kernel⟩, ⟨by decide +kernel, by decide +kernel, by decide +kernel⟩, ⟨by decide +kernel, by decide +kernel, by decide +kernel, by decide +kernel, by decide +kernel⟩, by decide +kernel, by decide +kernel, by decide +kernel⟩
  · exact ⟨⟨by decide +kernel, by decide +kernel, by decide +kernel, by decide +kernel, by decide +kernel⟩, ⟨by decide +kernel, by decide +kernel, by decide +kernel, by decide +kernel, by decide +kernel⟩, ⟨by decide +kernel, by decide +kernel, by decide +kernel⟩, ⟨by decide +kernel, by decide +kernel, by decide +kernel⟩, ⟨by decide +kernel, by decide +kernel, by decide +kernel, by decide +kernel, by decide +kernel⟩, by decide +kernel, by decide +kernel, by decide +kernel⟩
theorem foldB : FoldOk (exactI [[]]) ([oneN 97, starN, textN [98, 99, 100]].map ofI) := by
  simp only [List.map_cons, List.map_nil]
  rw [of_one, of_star, of_text]
  intro j h1 h2
  have hj : j = 1 ∨ j = 2 := by simp at h2; omega
  rcases hj with rfl | rfl
  · exact ⟨⟨by decide +kernel, by decide +kernel, by decide +kernel, by decide +kernel, by decide +kernel⟩, ⟨by decide +kernel, by decide +kernel, by decide +kernel, by decide +kernel, by decide +kernel⟩, ⟨by decide +kernel, by decide +kernel, by decide +kernel⟩, ⟨by decide +kernel, by decide +kernel, by decide +kernel⟩, ⟨by decide +kernel, by decide +kernel, by decide +kernel, by decide +kernel, by decide +kernel⟩, by decide +kernel, by decide +kernel, by decide +kernel⟩
  · exact ⟨⟨by decide +kernel, by decide +kernel, by decide +kernel, by decide +kernel, by decide +kernel⟩, ⟨by decide +kernel, by decide +kernel, by decide +kernel, by decide +kernel, by decide +kernel⟩, ⟨by decide +kernel, by decide +kernel, by decide +kernel⟩, ⟨by decide +kernel, by decide +kernel, by decide +kernel⟩, ⟨by decide +kernel, by decide +kernel, by decide +kernel, by decide +kernel, by decide +kernel⟩, by decide +kernel, by decide +kernel, by decide +kernel⟩
theorem okA : OkN exA := .cat _ _ _ _ _ _ (fun x hx => by
  rcases List.mem_cons.1 hx with rfl | hx
  · exact ok_one _
  · rcases List.mem_cons.1 hx with rfl | hx
    · exact ok_one _
    · rw [List.mem_singleton.1 hx]; exact .set _ _ _ _ _ _) foldA
theorem okB : OkN exB := .cat _ _ _ _ _ _ (fun x hx => by
  rcases List.mem_cons.1 hx with rfl | hx
  · exact ok_one _
  · rcases List.mem_cons.1 hx with rfl | hx
    · exact .rep _ _ _ _ _ _ (by omega) (by omega) (by omega)
    · rw [List.mem_singleton.1 hx]; exact ok_text _ (by decide)) foldB
theorem fitA : FitI ⟨true, [[97, 98, 99], [97, 98, 100]], [], [], allQ⟩ := ⟨by decide +kernel, by decide +kernel, by decide +kernel, by decide +kernel, by decide +kernel⟩
theorem fitBB : FitI ⟨false, [], [[97]], [[99, 100]], .mk 3 [[98, 99, 100]] []⟩ := ⟨by decide +kernel, by decide +kernel, by decide +kernel, by decide +kernel, by decide +kernel⟩
end Go.Proofs.YtdccjfabdfgomaaGreatDoor
