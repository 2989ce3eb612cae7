
/- Queries in memory: read, owned. -/
import Derived.Test.YtgodcegaffgfjaaGreatDoorUa
import Derived.Test.YtgodcegaffgfjaaGreatDoorKg
namespace Go.Proofs.YtgodcegaffgfjaaGreatDoor
open Go.RowKit Sx

inductive QuV where
  | mk (kind : Int) (gv : Value) (grams : List Tx) (sv : Value) (subs : List QuV)
namespace QuV
def kind : QuV → Int | .mk k _ _ _ _ => k
def gv : QuV → Value | .mk _ v _ _ _ => v
def grams : QuV → List Tx | .mk _ _ g _ _ => g
def sv : QuV → Value | .mk _ _ _ v _ => v
def subs : QuV → List QuV | .mk _ _ _ _ s => s
mutual
def key : QuV → Qu
  | .mk k _ gs _ ss => .mk k gs (keys ss)
def keys : List QuV → List Qu
  | [] => []
  | q :: l => key q :: keys l
end
end QuV
def encTx (s : Tx) : List Value := [.string (bs s)]
def encQ (q : QuV) : List Value := [.int .i64 q.kind, q.gv, q.sv]
def KindR (k : Int) : Prop := -9223372036854775808 ≤ k ∧ k ≤ 9223372036854775807
mutual
def QuR (r : Hp) : QuV → Prop
  | .mk k gv gs sv ss => (Els r 1 encTx gv gs ∧ Els r 3 encQ sv ss ∧ QuL r ss) ∧ KindR k
def QuL (r : Hp) : List QuV → Prop
  | [] => True
  | q :: l => QuR r q ∧ QuL r l
end
theorem quL_iff {r : Hp} : ∀ {l : List QuV}, QuL r l ↔ ∀ q ∈ l, QuR r q
  | [] => by simp [QuL]
  | q :: l => by simp [QuL, quL_iff (l := l)]
theorem quR_iff {r : Hp} {q : QuV} : (QuR r q → Els r 1 encTx q.gv q.grams ∧ Els r 3 encQ q.sv q.subs ∧ ∀ s ∈ q.subs, QuR r s) ∧ (KindR q.kind → (Els r 1 encTx q.gv q.grams ∧ Els r 3 encQ q.sv q.subs ∧ ∀ s ∈ q.subs, QuR r s) → QuR r q) := by
  cases q
  simp only [QuR, quL_iff]
  exact ⟨fun h => h.1, fun h1 h2 => ⟨h2, h1⟩⟩
theorem quR_kind {r : Hp} {q : QuV} (h : QuR r q) : KindR q.kind := by
  cases q
  simp only [QuR] at h
  exact h.2
theorem QuR.mono {r r' : Hp} (hr : sub r r') : ∀ {q : QuV}, QuR r q → QuR r' q
  | .mk k gv gs sv ss, h => by
    obtain ⟨h1, h2, h3⟩ := quR_iff.1 h
    exact quR_iff.2 (quR_kind h) ⟨h1.mono hr, h2.mono hr, fun s _h => QuR.mono hr (h3 s _h)⟩
termination_by q => SizeOf.sizeOf q
decreasing_by
  have := List.sizeOf_lt_of_mem _h
  simp only [QuV.mk.sizeOf_spec, QuV.subs] at *
  omega
-- How much a query holds. -/
end Go.Proofs.YtgodcegaffgfjaaGreatDoor
