
/- slices.SortFunc over files, as the code of merge.Live calls it: her compare function, in whatever world. -/
import Derived.Test.YtmnehdpclnhmbaaNf
import Derived.Shelf.SlSortCmp.NoneTotal
import Derived.Shelf.Lay
import Derived.Ground.SlsfProg
namespace Go.Proofs
open Go.Shelf
shelf_lay_g SlLaysF0.n6 Slsf 6 at Try 23 as Try.fSort
end Go.Proofs
namespace Go.Proofs.Ytmnehdpclnhmbaa
open Go.RowKit Go.Sort Sx
theorem isNaN_w (a : Pa) (w : World) : Calls Try.prog 50 #[.string (bs a)] w fun e w' => e = .returned (.bool false) ∧ w' = w := by
  go_enter Try.func50, Try.ntmps50
  go_wp2
  go_ret
  exact ⟨by simp, rfl⟩
set_option maxHeartbeats 1000000 in
theorem cmpP_w (a b : Pa) (w : World) : Calls Try.prog 25 #[.string (bs a), .string (bs b)] w fun e w' => e = .returned (.int .i64 (cmpP a b)) ∧ w' = w := by
  go_enter Try.func25, Try.ntmps25
  go_wp2_with (go_at_call 50; refine (isNaN_w _ _).mono ?_; rintro e w' ⟨rfl, hw⟩; rw [hw])
  all_goals
    go_ret
    refine ⟨?_, rfl⟩
    unfold cmpP
    simp only [← less_iff, bs_toList] at *
    simp_all
set_option maxHeartbeats 1000000 in
theorem live1_w (x y : Pa) (u v : Value) (_hu : u.oneCell' = true) (_hv : v.oneCell' = true) (W : World) : Calls Try.prog 24 #[.agg #[.string (bs x), u], .agg #[.string (bs y), v]] W fun e w' => e = .returned (.int .i64 (cmpP x y)) ∧ ∃ q os', w' = grow (W.drewN q) os' := by
  have hcon := fun W' => cmpP_w x y W'
  change ∀ W', Calls Try.prog 25 _ _ _ at hcon
  generalize cmpP x y = z at hcon ⊢
  go_enter Try.func24, Try.ntmps24
  go_wp2_with (go_at_call 25; refine (hcon _).mono ?_; rintro e w' ⟨rfl, rfl⟩)
  go_ret
  exact ⟨rfl, 0, _, by rw [alloc_eq_grow, alloc_eq_grow, grow_grow]; rfl⟩
end Go.Proofs.Ytmnehdpclnhmbaa
