
/- The walk's rules for pointers and slices held against nil. -/
import Derived.Test.YtdccjfabdfgomaaGreatDoorPu
import Derived.Test.YtdccjfabdfgomaaGreatDoorGo
namespace Go.Proofs.YtdccjfabdfgomaaGreatDoor
open Go.RowKit Sx

namespace Sx
section
variable {P : Program} {r : Hp} {t : List Value} {d : Option Tmp} {ty : TypeId} {pos : String} {af : Array Edge} {gd : Option (Nat × Bool)}
theorem kd_ptr {T : TypeId} (h : kdB P T = some .ptr) : ∃ u, P.underlying T = some (.pointer u) := by
  unfold kdB at h
  split at h <;> first | (cases h; done) | exact ⟨_, by assumption⟩
theorem nil_run {T : TypeId} {x : Option Addr} {w : World} [h : TyKd P T .ptr] : (Op.equal T (.pointer x) (.pointer none)).run P w = .ok x.isNone w := by
  obtain ⟨u, hu⟩ := kd_ptr h.kd
  show (Op.equalIn (9999 + 1) T (.pointer x) (.pointer none)).run P w = _
  unfold Op.equalIn
  cases x <;> simp [Sem.run_bind, Sem.run_pure, Result.andThen, run_underlying hu]
theorem pu_eqPn {T T' : TypeId} {x y : Operand} [TyKd P T .ptr] (hx : evO t x = some (.pointer none)) (hy : evO t y = some (.pointer none)) : Pur P r t ⟨d, .binOp .eql T x y T', ty, pos, af, gd⟩ (.bool true) := by
  refine ⟨rfl, fun w _ => ?_⟩
  simp [execOp, ev_of hx, ev_of hy, eqGuard, binOp, Result.andThen, nil_run]
theorem pu_eqPs {T T' : TypeId} {x y : Operand} {a : Addr} [TyKd P T .ptr] (hx : evO t x = some (.pointer (some a))) (hy : evO t y = some (.pointer none)) : Pur P r t ⟨d, .binOp .eql T x y T', ty, pos, af, gd⟩ (.bool false) := by
  refine ⟨rfl, fun w _ => ?_⟩
  simp [execOp, ev_of hx, ev_of hy, eqGuard, binOp, Result.andThen, nil_run]
theorem pu_nePn {T T' : TypeId} {x y : Operand} [TyKd P T .ptr] (hx : evO t x = some (.pointer none)) (hy : evO t y = some (.pointer none)) : Pur P r t ⟨d, .binOp .neq T x y T', ty, pos, af, gd⟩ (.bool false) := by
  refine ⟨rfl, fun w _ => ?_⟩
  simp [execOp, ev_of hx, ev_of hy, eqGuard, binOp, Result.andThen, nil_run]
theorem pu_nePs {T T' : TypeId} {x y : Operand} {a : Addr} [TyKd P T .ptr] (hx : evO t x = some (.pointer (some a))) (hy : evO t y = some (.pointer none)) : Pur P r t ⟨d, .binOp .neq T x y T', ty, pos, af, gd⟩ (.bool true) := by
  refine ⟨rfl, fun w _ => ?_⟩
  simp [execOp, ev_of hx, ev_of hy, eqGuard, binOp, Result.andThen, nil_run]
end
end Sx
end Go.Proofs.YtdccjfabdfgomaaGreatDoor
