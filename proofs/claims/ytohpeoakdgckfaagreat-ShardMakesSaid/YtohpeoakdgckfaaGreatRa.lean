
/- wire.place, wire.Reader: their small contracts. wire.place.take; wire.Read: their contracts. -/
import Derived.Test.YtohpeoakdgckfaaGreatIdx
import Derived.Test.YtohpeoakdgckfaaGreatProg
import Derived.Test.YtohpeoakdgckfaaGreatSx
import Derived.Test.YtohpeoakdgckfaaGreatWd
namespace Go.Proofs.YtohpeoakdgckfaaGreat
open Go.RowKit Sx

attribute [local go_sem] Oper.semAt_some

/-- A Reader (or its place) in block g. -/
abbrev rdr (v : Value) (bad : Bool) : Obj := .cells [v, .bool bad].toArray 328 (0, 0)

set_option maxHeartbeats 400000 in
theorem must_any (r : Hp) (g : Nat) (v : Value) (bad is : Bool) :
    Tri Tryz.prog r 214 [.pointer (some ⟨g, 0, none⟩), .bool is] [pt g (rdr v bad)] fun _ H => H = [pt g (rdr v (bad || !is))] := by
  cases bad
  all_goals
    refine fn_of_sw Tryz.func214 rfl _ rfl ?_; refine aen Tryz.ntmps214 ?_
    repeat' (first | refine ax0m ?_ | (refine abb ?_; intro b) | refine ax1m ?_ | (refine aac ?_; intro ac cc) | refine ax2m ?_ | (refine ap3 ?_ ?_ <;> try intro h) | apply True.intro)
    ((with_reducible apply fp_end); exact res_0 rfl)
    simp
end Go.Proofs.YtohpeoakdgckfaaGreat

namespace Go.Proofs.YtohpeoakdgckfaaGreat
open Go.RowKit Sx

attribute [local go_sem] Oper.semAt_some

/-- A part of a slice of bytes. -/
theorem U8S.cut {r : Hp} {b off cap n : Nat} {l : List UInt8} (h : U8S r (.slice (some ⟨b, off, none⟩) l.length cap) l) (hn : n ≤ l.length) {c : Array Value} {E : TypeId} {fz : Nat × Nat} (h1 : l.length ≤ cap) (h2 : r b = some (.cells c E fz)) (h3 : ∀ j (h : j < (u8s l).length), c[off + j]? = some (u8s l)[j]) :
    (∀ cap', n ≤ cap' → U8S r (.slice (some ⟨b, off, none⟩) n cap') (l.take n)) ∧ (∀ cap', l.length - n ≤ cap' → U8S r (.slice (some ⟨b, off + n, none⟩) (l.length - n) cap') (l.drop n)) ∧ l.length ≤ cap := by
  have hm := h.2.1
  refine ⟨fun cap' hc => ⟨by simp [u8s], ?_, .inr ⟨b, off, cap', c, E, fz, by rw [List.length_take, Nat.min_eq_left hn], by rw [List.length_take, Nat.min_eq_left hn]; exact hc, h2, fun j hj => ?_⟩⟩, fun cap' hc => ⟨by simp [u8s], ?_, .inr ⟨b, off + n, cap', c, E, fz, by rw [List.length_drop], by rw [List.length_drop]; exact hc, h2, fun j hj => ?_⟩⟩, h1⟩
  · rw [List.length_take]; omega
  · have hj' : j < (u8s l).length := by simp [u8s] at hj ⊢; omega
    rw [h3 j hj']
    simp [u8s]
  · rw [List.length_drop]; omega
  · have hj' : n + j < (u8s l).length := by simp [u8s] at hj ⊢; omega
    rw [Nat.add_assoc, h3 (n + j) hj']
    simp [u8s]

set_option maxHeartbeats 1000000 in
theorem take_any (r : Hp) (g : Nat) (v : Value) (bad : Bool) (left : List UInt8) (n : Nat) (hv : U8S r v left) (hn : n ≤ 100000000000000) :
    Tri Tryz.prog r 211 [.pointer (some ⟨g, 0, none⟩), .int .i64 n] [pt g (rdr v bad)] fun w H =>
      ((bad = true ∨ left.length < n) ∧ w = .slice none 0 0 ∧ H = [pt g (rdr v true)]) ∨ (bad = false ∧ n ≤ left.length ∧ U8S r w (left.take n) ∧ ∃ v', U8S r v' (left.drop n) ∧ H = [pt g (rdr v' false)]) := by
  obtain ⟨a, c, rfl⟩ := hv.form
  have HV := hid hv
  have hlm := hv.2.1
  unfold maxLen at hlm
  clear hv
  by_cases h0 : bad = true ∨ left.length < n
  · cases bad
    · have h1 : left.length < n := by simpa using h0
      clear h0
      refine fn_of_sw Tryz.func211 rfl _ rfl ?_; refine aen Tryz.ntmps211 ?_
      repeat' (first | refine ax0m ?_ | (refine abb ?_; intro b) | refine ax1m ?_ | (refine aac ?_; intro ac cc) | refine ax2m ?_ | (refine ap3 ?_ ?_ <;> try intro h) | apply True.intro)
      ((with_reducible apply fp_ret); exact res_1 rfl rfl)
      exact .inl ⟨.inr h1, rfl, rfl⟩
    · clear h0
      refine fn_of_sw Tryz.func211 rfl _ rfl ?_; refine aen Tryz.ntmps211 ?_
      repeat' (first | refine ax0m ?_ | (refine abb ?_; intro b) | refine ax1m ?_ | (refine aac ?_; intro ac cc) | refine ax2m ?_ | (refine ap3 ?_ ?_ <;> try intro h) | apply True.intro)
      ((with_reducible apply fp_ret); exact res_1 rfl rfl)
      exact .inl ⟨.inl (by simp), rfl, rfl⟩
  · obtain ⟨rfl, h1⟩ : bad = false ∧ n ≤ left.length := by simpa using h0
    clear h0
    rcases HV.out.2.2 with ⟨⟨a', e⟩, h2⟩ | ⟨b, off, cap, cc, E, fz, e, h2, h3, h4⟩
    · injection e with e1 e2 e3
      clear e1
      subst e3
      have hl : left = [] := List.length_eq_zero_iff.1 e2
      subst hl
      obtain rfl : n = 0 := by simpa using h1
      clear h1 h2 e2
      refine fn_of_sw Tryz.func211 rfl _ rfl ?_; refine aen Tryz.ntmps211 ?_
      repeat' (first | refine ax0m ?_ | (refine abb ?_; intro b) | refine ax1m ?_ | (refine aac ?_; intro ac cc) | refine ax2m ?_ | (refine ap3 ?_ ?_ <;> try intro h) | apply True.intro)
      ((with_reducible apply fp_ret); exact res_1 rfl rfl)
      exact .inr ⟨by simp, by simp, HV.out, _, HV.out, rfl⟩
    · injection e with e1 e2 e3
      subst e1
      subst e3
      clear e2
      obtain ⟨k1, k2, k3⟩ := U8S.cut HV.out h1 h2 h3 h4
      clear h3 h4
      have K := hid (And.intro k1 k2)
      clear k1 k2
      have hd : decide (left.length < n) = false := by simpa using h1
      by_cases hc : c = n
      · obtain rfl : n = left.length := by omega
        subst hc
        refine fn_of_sw Tryz.func211 rfl _ rfl ?_; refine aen Tryz.ntmps211 ?_
        repeat' (first | refine ax0m ?_ | (refine abb ?_; intro b) | refine ax1m ?_ | (refine aac ?_; intro ac cc) | refine ax2m ?_ | (refine ap3 ?_ ?_ <;> try intro h) | apply True.intro)
        ((with_reducible apply fp_ret); exact res_1 rfl rfl)
        exact .inr ⟨by simp, Nat.le_refl _, K.out.1 _ (Nat.le_refl _), _, by
          have h5 := HV.out.2.2
          rcases h5 with ⟨⟨a', e⟩, h9⟩ | ⟨b', off', cap', cc', E', fz', e, h6, h7, h8⟩
          · rw [List.drop_length]
            have h10 : left = [] := List.length_eq_zero_iff.1 h9
            subst h10
            exact HV.out
          · injection e with e1 e2 e3
            obtain ⟨rfl, rfl⟩ : b = b' ∧ off = off' := by injection e1 with e4; injection e4 with e5 e6; exact ⟨e5, e6⟩
            rw [List.drop_length]
            exact ⟨by simp [u8s], by simp [maxLen], .inr ⟨b, off, 0, cc', E', fz', rfl, Nat.le_refl _, h7, fun j hj => by simp [u8s] at hj⟩⟩, rfl⟩
      · refine fn_of_sw Tryz.func211 rfl _ rfl ?_; refine aen Tryz.ntmps211 ?_
        repeat' (first | refine ax0m ?_ | (refine abb ?_; intro b) | refine ax1m ?_ | (refine aac ?_; intro ac cc) | refine ax2m ?_ | (refine ap3 ?_ ?_ <;> try intro h) | apply True.intro)
        ((with_reducible apply fp_ret); exact res_1 rfl rfl)
        exact .inr ⟨by simp, h1, K.out.1 _ (by omega), _, K.out.2 _ (by omega), rfl⟩

set_option maxHeartbeats 400000 in
theorem read_any (r : Hp) (v : Value) (l : List UInt8) (hv : U8S r v l) (hl : l.length ≤ 1000000000) : Tri Tryz.prog r 182 [v] [] fun w H => ∃ g v', w = .pointer (some ⟨g, 0, none⟩) ∧ H = [pt g (rdr v' false), U8R v' l] := by
  have HC := hid (clone_any r v l hv (by omega))
  obtain ⟨a, c, rfl⟩ := hv.form
  clear hv
  refine fn_of_sw Tryz.func182 rfl _ rfl ?_; refine aen Tryz.ntmps182 ?_
  repeat' (first | refine ax0m ?_ | (refine abb ?_; intro b) | (refine acl Tryz.func73 ?_; refine acr (HC.out) ?_; rintro v' H' ⟨a', c', rfl, rfl⟩; all_goals refine apl ?_) | refine ax1m ?_ | (refine aac ?_; intro ac cc) | refine ax2m ?_ | (refine ap3 ?_ ?_ <;> try intro h) | apply True.intro)
  ((with_reducible apply fp_ret); exact res_1 rfl rfl)
  exact ⟨_, _, rfl, rfl⟩
set_option maxHeartbeats 400000 in
theorem rok_any (r : Hp) (g : Nat) (v : Value) (bad : Bool) : Tri Tryz.prog r 187 [.pointer (some ⟨g, 0, none⟩)] [pt g (rdr v bad)] fun w H => w = .bool (!bad) ∧ H = [pt g (rdr v bad)] := by
  refine fn_of_sw Tryz.func187 rfl _ rfl ?_; refine aen Tryz.ntmps187 ?_
  repeat' (first | refine ax0m ?_ | (refine abb ?_; intro b) | refine ax1m ?_ | (refine aac ?_; intro ac cc) | refine ax2m ?_ | (refine ap3 ?_ ?_ <;> try intro h) | apply True.intro)
  ((with_reducible apply fp_ret); exact res_1 rfl rfl)
  exact ⟨rfl, rfl⟩
set_option maxHeartbeats 400000 in
theorem rleft_any (r : Hp) (g : Nat) (v : Value) (bad : Bool) (l : List UInt8) (hv : U8S r v l) : Tri Tryz.prog r 188 [.pointer (some ⟨g, 0, none⟩)] [pt g (rdr v bad)] fun w H => w = .int .i64 (if bad then 0 else l.length : Nat) ∧ H = [pt g (rdr v bad)] := by
  obtain ⟨a, c, rfl⟩ := hv.form
  clear hv
  cases bad
  all_goals
    refine fn_of_sw Tryz.func188 rfl _ rfl ?_; refine aen Tryz.ntmps188 ?_
    repeat' (first | refine ax0m ?_ | (refine abb ?_; intro b) | refine ax1m ?_ | (refine aac ?_; intro ac cc) | refine ax2m ?_ | (refine ap3 ?_ ?_ <;> try intro h) | apply True.intro)
    ((with_reducible apply fp_ret); exact res_1 rfl rfl)
    exact ⟨by simp, rfl⟩
end Go.Proofs.YtohpeoakdgckfaaGreat
