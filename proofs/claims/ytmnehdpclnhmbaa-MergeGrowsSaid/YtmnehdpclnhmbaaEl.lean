
/- Slices of things of several cells; files and docs; slices.IndexFunc and ContainsFunc over them. mudlarkkit.SameBytes: its contract. -/
import Derived.Test.YtmnehdpclnhmbaaWd
import Derived.Test.YtmnehdpclnhmbaaSx
import Derived.Test.YtmnehdpclnhmbaaPu
import Derived.Test.YtmnehdpclnhmbaaTy
import Derived.Test.YtmnehdpclnhmbaaGo
namespace Go.Proofs.Ytmnehdpclnhmbaa
open Go.RowKit Sx


structure FileV where
  path : List UInt8
  val : Value
  data : List UInt8
  deriving Inhabited
abbrev FileV.key (f : FileV) : List UInt8 × List UInt8 := (f.path, f.data)
structure DocV where
  path : List UInt8
  lang : List UInt8
  sum : Nat
  size : Int
  deriving Inhabited, DecidableEq
def encF (f : FileV) : List Value := [.string (bs f.path), f.val]
abbrev Files (r : Hp) (v : Value) (fs : List FileV) : Prop := Els r 2 encF v fs ∧ ∀ f ∈ fs, U8S r f.val f.data
def idx (o : Option Nat) : Int := match o with | some k => k | none => -1
theorem find_app {α : Type} {q : α → Bool} {xs : List α} {k : Nat} (hk : k < xs.length) (h : (xs.take k).findIdx? q = none) : (xs.take (k + 1)).findIdx? q = if q xs[k] then some k else none := by
  rw [List.take_succ_eq_append_getElem hk, List.findIdx?_append, h]
  simp only [List.findIdx?_cons, List.findIdx?_nil, List.length_take, Nat.min_eq_left (Nat.le_of_lt hk)]
  cases q xs[k] <;> simp
theorem find_fst {α : Type} {q : α → Bool} {xs : List α} {k : Nat} (hk : k < xs.length) (h : (xs.take k).findIdx? q = none) (hq : q xs[k] = true) : xs.findIdx? q = some k := by
  have h1 := find_app hk h
  rw [hq] at h1
  conv => lhs; rw [← List.take_append_drop (k + 1) xs]
  rw [List.findIdx?_append, h1]; rfl

end Go.Proofs.Ytmnehdpclnhmbaa

namespace Go.Proofs.Ytmnehdpclnhmbaa
open Go.RowKit Sx

theorem take_getD {α : Type} {k : Nat} {l : List α} {d : α} (h : k < l.length) : l.take (k + 1) = l.take k ++ [l.getD k d] := by
  rw [List.take_succ_eq_append_getElem h]; simp [h]
theorem take_eqD {α : Type} {k : Nat} {l m : List α} {d : α} (ht : l.take k = m.take k) (h1 : k < l.length) (h2 : k < m.length) (h : l.getD k d = m.getD k d) : l.take (k + 1) = m.take (k + 1) := by
  rw [take_getD (d := d) h1, take_getD (d := d) h2, ht, h]
theorem take_all2 {α : Type} {k : Nat} {l m : List α} (ht : l.take k = m.take k) (h1 : l.length ≤ k) (h2 : m.length ≤ k) : l = m := by
  rwa [List.take_of_length_le h1, List.take_of_length_le h2] at ht
theorem maxI {n : Nat} (h : n ≤ maxLen) : n ≤ 9223372036854775807 := by unfold maxLen at h; omega
set_option maxRecDepth 10000 in
set_option maxHeartbeats 1000000 in
theorem sameBytes_any (r : Hp) (v w : Value) (l m : List UInt8) (hv : U8S r v l) (hw : U8S r w m) : Tri Try.prog r 46 [v, w] [] fun u H => u = .bool (decide (l = m)) ∧ H = [] := by
  refine Tri.free fun R HR => ?_
  have hlm := maxI hv.2.1
  refine fn_of_sw Try.func46 rfl _ rfl ?_; refine aen Try.ntmps46 ?_
  repeat' (first | refine aw0m ?_ | (refine ap2 ?_ ?_ <;> try intro h) | refine aw1m ?_ | (refine abx ?_; intro bb) | (refine abz ?_; intro bz) | (refine ahv ?_; intro v' hv') | (refine aac ?_; intro ac cc) | refine aw2 ?_ | (refine ap4 ?_ ?_ <;> try intro h) | apply True.intro)
  · ((with_reducible apply fp_ret); exact res_1 rfl rfl)
    exact HR.out _ [] _ _ (by (exact atks)) ⟨by rw [decide_eq_false]; rintro rfl; exact h rfl, rfl⟩
  · refine sw_loop (fun gm t H' => ∃ k : Nat, gm = l.length + 1 - k ∧ (k ≤ l.length) ∧ (l.take k = m.take k) ∧ (∃ G, Takes [] H' G) ∧ Sls t 26 [(0, v), (1, w), (5, .int .i64 k)]) _ ⟨0, rfl, Nat.zero_le _, by simp, ⟨[], atks⟩, asls⟩ ?_
    rintro gm t H' ⟨k, rfl, hk, ht, ⟨G, hp⟩, hs'⟩
    revert t; refine sls_all ?_; iterate 23 intro uu'
    refine sw_takeG hp ?_; clear hp
    repeat' (first | refine aw0m ?_ | (refine ap2 ?_ ?_ <;> try intro h) | (first | ((with_reducible apply sw_draw (id := 6) 9 [(0, true), (1, true), (2, true), (3, true), (4, true), (5, true), (6, true), (7, true), (8, true)] [] []); kernel_rfl; (exact atks); kernel_rfl; intro r' hl')) | refine aw1m ?_ | (refine abx ?_; intro bb) | (refine abz ?_; intro bz) | (refine ahv ?_; intro v' hv') | (refine aac ?_; intro ac cc) | refine aw2 ?_ | (refine ap4 ?_ ?_ <;> try intro h) | apply True.intro)
    · ((with_reducible apply fp_ret); exact res_1 rfl rfl)
      exact HR.out _ [] _ _ (by (exact atks)) ⟨by rw [decide_eq_false]; rintro rfl; exact h rfl, rfl⟩
    · exact ⟨_, by omega, k + 1, rfl, by omega, take_eqD (d := 0) ht (by omega) (by omega) (UInt8.toNat_inj.1 (by omega)), ⟨_, atks⟩, asls⟩
    · ((with_reducible apply fp_ret); exact res_1 rfl rfl)
      exact HR.out _ [] _ _ (by (exact atks)) ⟨by rw [decide_eq_true (take_all2 ht (by omega) (by omega))], rfl⟩
end Go.Proofs.Ytmnehdpclnhmbaa
