
/- Pieces joined, opened, lent to a statement; owned bytes, owned files; clear of the end of an owned row. -/
import Derived.Test.YtmnehdpclnhmbaaTw
import Derived.Test.YtmnehdpclnhmbaaEl
namespace Go.Proofs.Ytmnehdpclnhmbaa
open Go.RowKit
namespace Sx

section
variable {P : Program} {l : Option Nat} {r : Hp} {Q : Exit → St} {K : St} {t : List Value} {H : List Ch} {d : Option Tmp} {ty : TypeId} {pos : String} {af : Array Edge} {gd : Option (Nat × Bool)}
theorem kx_clr {T E : TypeId} {x : Operand} {u z : Value} {sz n i : Nat} {xs : List Value} {H' : List Ch} [TyE P T E] (hz : zeroB P E = some z) (hsz : decide (z.cells.size = sz) = true) (hone : z.cells.toList.all one? = true) (hx : evO t x = some (cutV u i n sz)) (hi : i < n) (ht : Take (RowC E sz u n xs) H H')
    (hk : ∀ ys, K (putL t d (.tuple #[])) (RowC E sz u n ys :: H')) : SWo P l r ⟨d, .call { callee := .builtin .clear, args := #[x], argTypes := #[T] }, ty, pos, af, gd⟩ K t H :=
  swo_run (by intro c hc; cases hc) fun w g ds ok al => by
    have hsz' : z.cells.size = sz := by simpa using hsz
    obtain ⟨a, k, dd, rfl, hR, al'⟩ := ht.all al
    rcases hR.2 with ⟨rfl, rfl, _⟩ | ⟨b, cap, cur, rfl, rfl, h1, h2, h3, h4⟩
    · omega
    · obtain ⟨m, hm⟩ : ∃ m, n - i = m + 1 := ⟨n - i - 1, by omega⟩
      have hx' : evO t x = some (.slice (some ⟨b, 0 + i * sz, none⟩) (m + 1) (cap - i)) := by
        rw [hx]
        show some (Value.slice (if cap = i then some (⟨b, 0, none⟩ : Addr) else (some (⟨b, 0, none⟩ : Addr)).map fun x => x.add (i * sz)) (n - i) (cap - i)) = _
        rw [if_neg (by omega), hm, Option.map_some, add_none]
      have hzl : (Builtin.zeroCells z.cells (m + 1)).toList.length = (m + 1) * sz := by
        unfold Builtin.zeroCells
        simp [hsz']
      have hzo : ∀ v ∈ (Builtin.zeroCells z.cells (m + 1)).toList, one? v = true := fun v hv => by
        unfold Builtin.zeroCells at hv
        simp only [Array.toList_map, List.mem_map] at hv
        obtain ⟨q, hq, rfl⟩ := hv
        have hlt : q % z.cells.size < z.cells.size := Nat.mod_lt _ (by
          rw [hsz']
          by_cases c : sz = 0
          · subst c
            simp [hsz'] at hq
          · omega)
        rw [getElem!_pos z.cells _ hlt]
        exact List.all_eq_true.1 hone _ (by simp)
      have hcap : n * sz ≤ cap * sz := Nat.mul_le_mul_right _ h1
      have hin : i * sz + (m + 1) * sz = n * sz := by rw [← Nat.add_mul]; congr 1; omega
      have hco : i < cap := by omega
      obtain ⟨w', hr, d', to⟩ := run_storeN (P := P) (off := 0 + i * sz) (Builtin.zeroCells z.cells (m + 1)).toList 0 cur k ds w dd ok (by rw [hzl]; omega) hzo
      refine ⟨_, w', _, _, ?_, hk _, ⟨_, _, d', rfl, ⟨?_, .inr ⟨b, cap, _, rfl, rfl, h1, h2, by rw [setN_sz, h3], setN_put (xs := xs) (by omega) h4 ?_⟩⟩, al'⟩, to⟩
      · rw [Nat.zero_add] at hr hx'
        simp [execOp, resolve, invoke, builtin, Builtin.clear_, ev_of hx', Sem.run_bind, Result.andThen, run_underlying (ty_slc (P := P) (T := T)), run_zeroValue hz, hr]
      · have := hR.1
        simp only [List.length_append, List.length_take, List.length_drop, hzl]
        omega
      · have := hR.1
        rw [hzl]
        omega
end
end Sx
end Go.Proofs.Ytmnehdpclnhmbaa

namespace Go.Proofs.Ytmnehdpclnhmbaa
open Go.RowKit Sx
namespace Sx
section
variable {P : Program} {l : Option Nat} {r : Hp} {Q : Exit → St} {K : St} {t : List Value} {H H1 : List Ch} {d : Option Tmp} {ty : TypeId} {pos : String} {af : Array Edge} {gd : Option (Nat × Bool)}
/-- Pieces said as one. -/
theorem sw_joinA {c : Code} {As : List Ch} {D : Ch} (ht : Takes As H H1) (hj : ∀ h, all As h → D h) (h : SW P l r c Q t (D :: H1)) : SW P l r c Q t H := fun w g ds ok a => by
  have a' := all_perm ht a
  obtain ⟨x, y, dd, e, hx, hy⟩ := all_app.1 a'
  exact h w g ds ok ⟨x, y, dd, e, hj x hx, hy⟩
/-- One piece said as others, with what it hides. -/
theorem sw_open {c : Code} {ι : Type} {A : Ch} {B : ι → List Ch} {φ : ι → Prop} (ht : Take A H H1) (hA : ∀ h, A h → ∃ i, φ i ∧ all (B i) h) (h : ∀ i, φ i → SW P l r c Q t (B i ++ H1)) : SW P l r c Q t H := fun w g ds ok a => by
  obtain ⟨x, y, dd, e, hx, hy⟩ := all_perm ht a
  obtain ⟨i, hi, hb⟩ := hA x hx
  exact h i hi w g ds ok (all_app.2 ⟨x, y, dd, e, hb, hy⟩)
theorem swo_openA {o : Oper} {ι : Type} {A : Ch} {B : ι → List Ch} {φ : ι → Prop} (ht : Take A H H1) (hA : ∀ h, A h → ∃ i, φ i ∧ all (B i) h) (h : ∀ i, φ i → SWo P l r o K t (B i ++ H1)) : SWo P l r o K t H := fun w g ds ok a => by
  obtain ⟨x, y, dd, e, hx, hy⟩ := all_perm ht a
  obtain ⟨i, hi, hb⟩ := hA x hx
  exact h i hi w g ds ok (all_app.2 ⟨x, y, dd, e, hb, hy⟩)
theorem all_one {A : Ch} {h : Hp} : all [A] h ↔ A h := by
  constructor
  · rintro ⟨x, y, _, rfl, hx, rfl⟩; rw [un_emp]; exact hx
  · intro e; exact ⟨h, emp, dj_emp, un_emp.symm, e, rfl⟩
theorem all_fold {L1 L2 : List Ch} {h : Hp} : all (L1 ++ [all L2]) h ↔ all (L1 ++ L2) h := by
  constructor
  · intro e; obtain ⟨a, b, d, e, h1, h2⟩ := all_app.1 e; exact all_app.2 ⟨a, b, d, e, h1, all_one.1 h2⟩
  · intro e; obtain ⟨a, b, d, e, h1, h2⟩ := all_app.1 e; exact all_app.2 ⟨a, b, d, e, h1, all_one.2 h2⟩
end
end Sx
structure BytV where
  val : Value
  data : List UInt8
  deriving Inhabited
abbrev ByC (Z : List BytV) : Ch := all (Z.map fun z => U8R z.val z.data)
theorem byC_snoc {Z : List BytV} {v : Value} {b : List UInt8} (h : Hp) (e : all [ByC Z, U8R v b] h) : ByC (Z ++ [⟨v, b⟩]) h := by
  have h1 := all_perm (List.Perm.swap _ _ _) e
  have h2 := (all_fold (L1 := [U8R v b])).1 h1
  refine all_perm ?_ h2
  rw [List.map_append]
  exact List.perm_append_comm (l₁ := [_])
theorem byC_in {r : Hp} : ∀ {Z : List BytV} {g : Hp}, ByC Z g → sub g r → ∀ z ∈ Z, U8S r z.val z.data
  | [], _, _, _, _, hz => by cases hz
  | y :: Z, g, h, hs, z, hz => by
    obtain ⟨g1, g2, dd, rfl, h1, h2⟩ := h
    rcases List.mem_cons.1 hz with rfl | hz
    · exact h1.sl (fun b o e => hs b o (un_left e))
    · exact byC_in h2 (fun b o e => hs b o (un_right dd e)) z hz
section
variable {P : Program} {l : Option Nat} {r : Hp} {K : St} {t : List Value} {H : List Ch}
theorem swo_joinA {H1 : List Ch} {o : Oper} {As : List Ch} {D : Ch} (ht : Takes As H H1) (hj : ∀ h, all As h → D h) (h : SWo P l r o K t (D :: H1)) : SWo P l r o K t H := fun w g ds ok a => by
  have a' := all_perm ht a
  obtain ⟨x, y, dd, e, hx, hy⟩ := all_app.1 a'
  exact h w g ds ok ⟨x, y, dd, e, hj x hx, hy⟩
end
namespace Sx
section
variable {P : Program} {l : Option Nat} {r : Hp} {Q : Exit → St} {K : St} {t : List Value} {H : List Ch}
theorem sw_lendQ {c : Code} {A : Ch} {H1 : List Ch} (ht : Take A H H1) (h : ∀ r' g, sub r r' → sub g r' → A g → SW P l r' c (fun e t' H' => Q e t' (A :: H')) t H1) : SW P l r c Q t H := by
  intro w h0 ds ok al
  obtain ⟨g, k, d, rfl, hg, hk⟩ := ht.all al
  refine wpIn_mono (h (un r g) g (fun b o e => un_left e) (fun b o e => un_right (dj_un.1 ok.dj).1 e) hg w k ds (ok.lend d) hk) ?_
  intro e a' w' p
  cases e with
  | panic _ => exact p.elim
  | outgrown => exact p.elim
  | _ =>
    obtain ⟨t', H', k', e1, h2, al', to'⟩ := p
    obtain ⟨d', tb⟩ := To.back ok d to'
    exact ⟨t', _, _, e1, h2, ⟨g, k', d', rfl, hg, al'⟩, tb⟩

end
end Sx
def bytF (f : FileV) : BytV := ⟨f.val, f.data⟩
/-- Files that are owned, with their bytes. -/
def FilC (v : Value) (ks : List (List UInt8 × List UInt8)) : Ch := fun h => ∃ Z : List FileV, Z.map FileV.key = ks ∧ all [RowC 42 2 v Z.length (Z.flatMap encF), ByC (Z.map bytF)] h
def FilZ (v : Value) (Z : List FileV) : Ch := all [RowC 42 2 v Z.length (Z.flatMap encF), ByC (Z.map bytF)]
theorem filZ_files {r g : Hp} {v : Value} {Z : List FileV} (h : FilZ v Z g) (hs : sub g r) : Files r v Z := by
  obtain ⟨g1, g2, dd, rfl, h1, g3, g4, dd2, rfl, h2, rfl⟩ := h
  refine ⟨⟨fun _ => rfl, h1.sl (fun b o e => hs b o (un_left e))⟩, fun x hx => ?_⟩
  exact byC_in h2 (fun b o e => hs b o (un_right dd (un_left e))) (bytF x) (List.mem_map_of_mem hx)
theorem filC_files {r g : Hp} {v : Value} {ks : List (List UInt8 × List UInt8)} (h : FilC v ks g) (hs : sub g r) : ∃ Z : List FileV, Z.map FileV.key = ks ∧ Files r v Z := by
  obtain ⟨Z, hZ, h1⟩ := h
  exact ⟨Z, hZ, filZ_files h1 hs⟩
end Go.Proofs.Ytmnehdpclnhmbaa
