
/- Ro: from a contract ('Tri', with what lay there as what is read alone) to a row that says 'true, and all reads as it did': the arguments opened, the last step. No program is named. Rpb: bytes, strings as arguments of this seat's laws. -/
import Derived.Test.YtdccjfabdfgomaaGreatDoorAp
import Derived.Laws.BitsLemmas
import Derived.Laws.Bits64b
import Derived.WalkKit
import Derived.Laws.BitsAllLaws
import Derived.Test.YtdccjfabdfgomaaGreatDoorTy
import Derived.Test.YtdccjfabdfgomaaGreatDoorProg
import Derived.Test.YtdccjfabdfgomaaGreatDoorSx
import Derived.WalkSpells
import Derived.WalkLawsBesides
import Derived.ProofKit
import Derived.Test.YtdccjfabdfgomaaGreatDoorPu
import Derived.Test.YtdccjfabdfgomaaGreatDoorGo
import Derived.Test.YtdccjfabdfgomaaGreatDoorTw
import Derived.Test.YtdccjfabdfgomaaGreatDoorVa
import Derived.OpenShut
import Derived.ShutString
import Derived.ChangeSame
import Derived.Carry
import Derived.SizedLaws
import Derived.Deep.Slices
namespace Go.Proofs.YtdccjfabdfgomaaGreatDoor

/-- The bytes of a number: seven bits each, the lowest first, all but the last one marked. -/
def septs (n : Nat) : List UInt8 := if h : n < 128 then [UInt8.ofNat n] else UInt8.ofNat (n % 128 + 128) :: septs (n / 128)
termination_by n
decreasing_by omega

def texts (l : List UInt8) : List UInt8 := septs l.length ++ l
end Go.Proofs.YtdccjfabdfgomaaGreatDoor

/- Bits of 32: masks, or; the bytes of a number the other way round; no program is named. -/
namespace Go.Proofs.YtdccjfabdfgomaaGreatDoor
open Go.RowKit

end Go.Proofs.YtdccjfabdfgomaaGreatDoor

/- Numbers as bytes, read: the arithmetic of a round. No program is named. -/
namespace Go.Proofs.YtdccjfabdfgomaaGreatDoor
open Go.RowKit

end Go.Proofs.YtdccjfabdfgomaaGreatDoor

/- Sums by bits and by a table: plain facts on numbers. No program is named. -/
namespace Go.Proofs.YtdccjfabdfgomaaGreatDoor

def poly : Nat := 3988292384
/-- A bit taken into a number. -/
def crcBit (s : Nat) (b : Bool) : Nat := if ((s % 2 == 1) != b) then s / 2 ^^^ poly else s / 2
/-- One step without a bit. -/
def st (x : Nat) : Nat := crcBit x false
end Go.Proofs.YtdccjfabdfgomaaGreatDoor

namespace Go.Proofs.YtdccjfabdfgomaaGreatDoor
open Go.RowKit Sx

attribute [local go_sem] Oper.semAt_some

end Go.Proofs.YtdccjfabdfgomaaGreatDoor

namespace Go.Proofs.YtdccjfabdfgomaaGreatDoor
open Go.RowKit Sx

attribute [local go_sem] Oper.semAt_some

end Go.Proofs.YtdccjfabdfgomaaGreatDoor

namespace Go.Proofs.YtdccjfabdfgomaaGreatDoor
open Go.RowKit Sx

attribute [local go_sem] Oper.semAt_some

abbrev U8R (v : Value) (l : List UInt8) : Ch := RowC 5 1 v l.length (u8s l)
abbrev U8S (r : Hp) (v : Value) (l : List UInt8) : Prop := Sl r 1 v l.length (u8s l)

theorem Sl.news {r : Hp} {n c : Nat} {a : Addr} {xs : List Value} (h : Sl r 1 (.slice (some a) n c) n xs) (H : List Ch) : ∀ j u, xs[j]? = some u → Rd1 r H (a.add j) u := by
  intro j u hu
  obtain ⟨hj, rfl⟩ := List.getElem?_eq_some_iff.1 hu
  have hjn : j < n := by have := h.1; omega
  obtain ⟨b, off, u', e, h1, h2⟩ := h.at1 hjn
  cases e
  rw [add_none]
  rw [List.getElem?_eq_getElem hj] at h1
  cases h1
  exact h2 H

def kk : Nat → Int
  | 0 => 24
  | 1 => 16
  | 2 => 8
  | 3 => 0
  | _ => -8
end Go.Proofs.YtdccjfabdfgomaaGreatDoor

namespace Go.Proofs.YtdccjfabdfgomaaGreatDoor
open Go.RowKit Sx


structure FileV where
  path : List UInt8
  val : Value
  data : List UInt8
  deriving Inhabited
abbrev FileV.key (f : FileV) : List UInt8 × List UInt8 := (f.path, f.data)
def idx (o : Option Nat) : Int := match o with | some k => k | none => -1
theorem find_app {α : Type} {q : α → Bool} {xs : List α} {k : Nat} (hk : k < xs.length) (h : (xs.take k).findIdx? q = none) : (xs.take (k + 1)).findIdx? q = if q xs[k] then some k else none := by
  rw [List.take_succ_eq_append_getElem hk, List.findIdx?_append, h]
  simp only [List.findIdx?_cons, List.findIdx?_nil, List.length_take, Nat.min_eq_left (Nat.le_of_lt hk)]
  cases q xs[k] <;> simp
theorem find_fst {α : Type} {q : α → Bool} {xs : List α} {k : Nat} (hk : k < xs.length) (h : (xs.take k).findIdx? q = none) (hq : q xs[k] = true) : xs.findIdx? q = some k := by
  have h1 := find_app hk h
  rw [hq] at h1
  conv => lhs; rw [← List.take_append_drop (k + 1) xs]
  rw [List.findIdx?_append, h1]; rfl

end Go.Proofs.YtdccjfabdfgomaaGreatDoor

namespace Go.Proofs.YtdccjfabdfgomaaGreatDoor
open Go.RowKit Sx

theorem take_getD {α : Type} {k : Nat} {l : List α} {d : α} (h : k < l.length) : l.take (k + 1) = l.take k ++ [l.getD k d] := by
  rw [List.take_succ_eq_append_getElem h]; simp [h]
theorem maxI {n : Nat} (h : n ≤ maxLen) : n ≤ 9223372036854775807 := by unfold maxLen at h; omega
end Go.Proofs.YtdccjfabdfgomaaGreatDoor

namespace Go.Proofs.YtdccjfabdfgomaaGreatDoor
open Go.RowKit
namespace Sx

section
variable {P : Program} {l : Option Nat} {r : Hp} {Q : Exit → St} {K : St} {t : List Value} {H : List Ch} {d : Option Tmp} {ty : TypeId} {pos : String} {af : Array Edge} {gd : Option (Nat × Bool)}
end
end Sx
end Go.Proofs.YtdccjfabdfgomaaGreatDoor

namespace Go.Proofs.YtdccjfabdfgomaaGreatDoor
open Go.RowKit Sx
namespace Sx
section
variable {P : Program} {l : Option Nat} {r : Hp} {Q : Exit → St} {K : St} {t : List Value} {H H1 : List Ch} {d : Option Tmp} {ty : TypeId} {pos : String} {af : Array Edge} {gd : Option (Nat × Bool)}
/-- Pieces said as one. -/
theorem sw_joinA {c : Code} {As : List Ch} {D : Ch} (ht : Takes As H H1) (hj : ∀ h, all As h → D h) (h : SW P l r c Q t (D :: H1)) : SW P l r c Q t H := fun w g ds ok a => by
  have a' := all_perm ht a
  obtain ⟨x, y, dd, e, hx, hy⟩ := all_app.1 a'
  exact h w g ds ok ⟨x, y, dd, e, hj x hx, hy⟩
/-- One piece said as others, with what it hides. -/
theorem sw_open {c : Code} {ι : Type} {A : Ch} {B : ι → List Ch} {φ : ι → Prop} (ht : Take A H H1) (hA : ∀ h, A h → ∃ i, φ i ∧ all (B i) h) (h : ∀ i, φ i → SW P l r c Q t (B i ++ H1)) : SW P l r c Q t H := fun w g ds ok a => by
  obtain ⟨x, y, dd, e, hx, hy⟩ := all_perm ht a
  obtain ⟨i, hi, hb⟩ := hA x hx
  exact h i hi w g ds ok (all_app.2 ⟨x, y, dd, e, hb, hy⟩)
theorem all_one {A : Ch} {h : Hp} : all [A] h ↔ A h := by
  constructor
  · rintro ⟨x, y, _, rfl, hx, rfl⟩; rw [un_emp]; exact hx
  · intro e; exact ⟨h, emp, dj_emp, un_emp.symm, e, rfl⟩
end
end Sx
section
variable {P : Program} {l : Option Nat} {r : Hp} {K : St} {t : List Value} {H : List Ch}
theorem swo_joinA {H1 : List Ch} {o : Oper} {As : List Ch} {D : Ch} (ht : Takes As H H1) (hj : ∀ h, all As h → D h) (h : SWo P l r o K t (D :: H1)) : SWo P l r o K t H := fun w g ds ok a => by
  have a' := all_perm ht a
  obtain ⟨x, y, dd, e, hx, hy⟩ := all_app.1 a'
  exact h w g ds ok ⟨x, y, dd, e, hj x hx, hy⟩
end
namespace Sx
section
variable {P : Program} {l : Option Nat} {r : Hp} {Q : Exit → St} {K : St} {t : List Value} {H : List Ch}
theorem sw_lendQ {c : Code} {A : Ch} {H1 : List Ch} (ht : Take A H H1) (h : ∀ r' g, sub r r' → sub g r' → A g → SW P l r' c (fun e t' H' => Q e t' (A :: H')) t H1) : SW P l r c Q t H := by
  intro w h0 ds ok al
  obtain ⟨g, k, d, rfl, hg, hk⟩ := ht.all al
  refine wpIn_mono (h (un r g) g (fun b o e => un_left e) (fun b o e => un_right (dj_un.1 ok.dj).1 e) hg w k ds (ok.lend d) hk) ?_
  intro e a' w' p
  cases e with
  | panic _ => exact p.elim
  | outgrown => exact p.elim
  | _ =>
    obtain ⟨t', H', k', e1, h2, al', to'⟩ := p
    obtain ⟨d', tb⟩ := To.back ok d to'
    exact ⟨t', _, _, e1, h2, ⟨g, k', d', rfl, hg, al'⟩, tb⟩

end
end Sx
end Go.Proofs.YtdccjfabdfgomaaGreatDoor

namespace Go.Proofs.YtdccjfabdfgomaaGreatDoor
open Go.RowKit
namespace Sx
section
variable {P : Program} {l : Option Nat} {r : Hp} {K : St} {t : List Value} {H : List Ch} {d : Option Tmp} {ty : TypeId} {pos : String} {af : Array Edge} {gd : Option (Nat × Bool)}
/-- The address of an element of a slice that is said by its parts. -/
theorem pu_ixF {sz n c : Nat} {B off : Nat} {T E : TypeId} {x y : Operand} {k : IntKind} {i : Int} {g : Bool} [TyE P T E] [hE : TyF P E g sz] (hx : evO t x = some (.slice (some ⟨B, off, none⟩) n c)) (hy : evO t y = some (.int k i)) (h0 : 0 ≤ i ∧ i < n) :
    Pur P r t ⟨d, .indexAddr T x y, ty, pos, af, gd⟩ (.pointer (some ⟨blkV (.slice (some ⟨B, off, none⟩) n c), offV (.slice (some ⟨B, off, none⟩) n c) + i.toNat * sz, none⟩)) := by
  refine ⟨rfl, fun w _ => ?_⟩
  simp [execOp, Instr.indexAt, asIntOf, ev_of hx, ev_of hy, Sem.run_bind, Result.andThen, run_underlying (ty_slc (P := P) (T := T)), run_sizeOf (P := P) (T := E) hE.size, h0.1, h0.2, add_none, blkV, offV]
/-- A whole element is stored. -/
theorem kx_stE {α : Type} {T E : TypeId} {x y : Operand} {u : Value} {sz n i : Nat} {enc : α → List Value} {xs : List α} {z : α} {H' : List Ch} (he : ∀ x, (enc x).length = sz) (h0 : decide (0 < sz) = true) (hT : sizeB P T = some sz) (hx : evO t x = some (.pointer (some ⟨blkV u, offV u + i * sz, none⟩))) (hy : evO t y = some (.agg (enc z).toArray)) (ht : Take (RowC E sz u n (xs.flatMap enc)) H H') (hv : (enc z).all one? = true) (hi : i < xs.length)
    (hk : K (putL t d undef) (RowC E sz u n ((xs.set i z).flatMap enc) :: H')) : SWo P l r ⟨d, .store T x y, ty, pos, af, gd⟩ K t H := by
  refine kx_stCN (j := i * sz) hT hx hy (he z) ht hv h0 ?_ ?_
  · rw [flat_len he]
    have : (i + 1) * sz ≤ xs.length * sz := Nat.mul_le_mul_right _ hi
    rw [Nat.succ_mul] at this; omega
  · have e : (xs.flatMap enc).take (i * sz) ++ (enc z ++ (xs.flatMap enc).drop (i * sz + sz)) = (xs.set i z).flatMap enc := by
      clear hk ht hx
      induction xs generalizing i with
      | nil => simp at hi
      | cons y xs ih =>
        cases i with
        | zero => rw [Nat.zero_mul, Nat.zero_add, List.take_zero, List.nil_append, List.flatMap_cons, List.set_cons_zero, List.flatMap_cons, ← he y, List.drop_left]
        | succ i =>
          have ih := ih (i := i) (by simpa using hi)
          rw [List.set_cons_succ, List.flatMap_cons, List.flatMap_cons, ← ih, Nat.add_mul, Nat.one_mul, show i * sz + sz = (enc y).length + i * sz by rw [he]; omega, List.take_length_add_append, show (enc y).length + i * sz + sz = (enc y).length + (i * sz + sz) by omega, List.drop_length_add_append, List.append_assoc, he, Nat.add_comm sz]
    rw [e]; exact hk
end
/-- An owned row that is not empty, opened. -/
theorem tri_rowF {P : Program} {r : Hp} {f : FuncId} {args : Option Addr → Nat → List Value} {R : Rt} {E : TypeId} {sz n : Nat} {xs : List Value} {H : List Ch} {a : Option Addr} {c : Nat} (hn : 0 < n) (h : ∀ b, a = some ⟨b, 0, none⟩ → Tri P r f (args a c) (RowC E sz (.slice a n c) n xs :: H) R) : Tri P r f (args a c) (RowC E sz (.slice a n c) n xs :: H) R :=
  tri_iff.2 fun w g ok al => by
    obtain ⟨g1, g2, dd, rfl, hR, hH⟩ := al
    rcases hR.2 with ⟨_, h0, _⟩ | ⟨b, cap, cur, hv, _⟩
    · omega
    · injection hv with e1 e2 e3
      exact tri_iff.1 (h b e1) w _ ok ⟨_, _, dd, rfl, hR, hH⟩
/-- What a compare function does. -/
def CmpBy {α : Type} (P : Program) (r : Hp) (gf : FuncId) (enc : α → List Value) (key : α → Tx) (xs : List α) : Prop := ∀ x ∈ xs, ∀ y ∈ xs, Tri P r gf [.agg (enc x).toArray, .agg (enc y).toArray] [] fun w H => (∃ c : Int, w = .int .i64 c ∧ (c < 0 ↔ key x < key y)) ∧ H = []
theorem CmpBy.up {α : Type} {P : Program} {r r' : Hp} {gf : FuncId} {enc : α → List Value} {key : α → Tx} {xs : List α} (h : CmpBy P r gf enc key xs) (hr : sub r r') : CmpBy P r' gf enc key xs := fun x hx y hy => (h x hx y hy).up hr
theorem CmpBy.of {α : Type} {P : Program} {r : Hp} {gf : FuncId} {enc : α → List Value} {key : α → Tx} {xs ys : List α} (h : CmpBy P r gf enc key xs) (hm : ∀ y ∈ ys, y ∈ xs) : CmpBy P r gf enc key ys := fun x hx y hy => h x (hm x hx) y (hm y hy)
end Sx
end Go.Proofs.YtdccjfabdfgomaaGreatDoor

namespace Go.Proofs.YtdccjfabdfgomaaGreatDoor
open Go.RowKit Go.WideShapes Go.ChangeShapes
namespace Sx
def hpOf (w : World) : Hp := fun b => w.heap[b]?
theorem Tri.below {P : Program} {f : FuncId} {args : List Value} {R : Rt} {W : World} (h : Tri P (hpOf W) f args [] R) : Calls P f args.toArray W fun e W' => ∃ v H, e = .returned v ∧ R v H ∧ Below W.heap.size W W' := by
  have ok : Ok none (hpOf W) [] W emp := ⟨fun b o c => (by cases c), fun b o c => c, fun b => Or.inr rfl, trivial, fun k hk => (by cases hk)⟩
  refine (tri_iff.1 h W emp ok rfl).mono ?_
  rintro e w' ⟨v, H', h', rfl, hR, _, to⟩
  exact ⟨v, H', rfl, hR, to.os, to.tape, to.output, to.size, fun k hk => to.keep k hk rfl⟩
section
variable {H : Type} {enc : TypeId × Value → H} {P : Program}
theorem trodAll_stays (hl : laidOutB P = true) {W W' : World} {sp : Nat → Bool} : ∀ {ts : List TypeId} {vs : List Value} {ds : List (DataW H)} {ps : List MemPlace},
    (ts.all fun t => P.readableRec t && decide (t < P.types.size)) = true → DataW.TrodAll enc P W 0 (fun _ => true) true ts vs ds ps → (∀ p ∈ ps, W.sameAt W' p) → (∀ p ∈ ps, sp p.block = true) →
    DataW.TrodAll enc P W' 0 sp true ts vs ds ps
  | [], [], [], _, _, h, _, _ => h
  | t :: ts, v :: vs, d :: ds, ps, ht, h, h1, h2 => by
    obtain ⟨p, q, ha, hb, rfl⟩ := h
    simp only [List.all_cons, Bool.and_eq_true, decide_eq_true_eq] at ht
    exact ⟨p, q, WideElems.Trod_stays hl ht.1.1 ht.1.2 ha (fun x hx => h1 x (List.mem_append_left _ hx)) (fun x hx => h2 x (List.mem_append_left _ hx)),
      trodAll_stays hl ht.2 hb (fun x hx => h1 x (List.mem_append_right _ hx)) (fun x hx => h2 x (List.mem_append_right _ hx)), rfl⟩
theorem trodAll_len {w : World} {base : Nat} {sp : Nat → Bool} {hd : Bool} : ∀ {ts : List TypeId} {vs : List Value} {ds : List (DataW H)} {ps : List MemPlace}, DataW.TrodAll enc P w base sp hd ts vs ds ps → ds.length = ts.length
  | [], [], [], _, _ => rfl
  | _ :: ts, _ :: vs, _ :: ds, _, h => by
    obtain ⟨p, q, _, hb, _⟩ := h
    simp [trodAll_len hb]
/-- What a row asks of its function: true, and all reads as it did. -/
theorem post_true {fn : Func} {s : ChangeSpec} {W W' : World} {args : Array Value} {ds gs : List (DataW H)} {before : List MemPlace} {tb : TypeId} {fresh handsOn : Bool}
    (hl : laidOutB P = true) (hv : s.vars = []) (hp : (fn.params.toList.all fun t => P.readableRec t && decide (t < P.types.size)) = true)
    (hs : ∀ l : List (DataW H), l.length = fn.params.size → s.fn H l = { results := [.lit (.bool true)], args := l }) (hr : fn.resultTypes = #[tb]) (htb : P.underlying tb = some .bool)
    (hW : DataW.Whole enc P fn.params.toList s.vars false W args.toList ds gs before) (hb : Below W.heap.size W W') : s.post enc P fn false fresh handsOn false W args (.bool true) W' := by
  have hW' := hW
  obtain ⟨p, q, hA, hV, rfl, hz, hn⟩ := hW
  rw [hv] at hV
  obtain ⟨rfl, rfl⟩ := trodVars_none hV
  have hlt : ∀ x ∈ p ++ [], x.block < W.heap.size := fun x hx => hW'.lt x hx
  have hlen : ds.length = fn.params.size := by rw [trodAll_len hA]; simp
  have hs' := hs (ds ++ []) (by simpa using hlen)
  refine ⟨ds, [], p ++ [], [], p, [], hW', ?_, ?_, ?_, World.keptBut_mono (fun x hx => ⟨hx, ?_⟩) (hb.frame (· ∈ p ++ [])), fun c => by cases c⟩
  · rw [hs', hr]
    exact trodAll_cons_mk (shut_bool htb _) trodAll_mk0
  · rw [hs', List.append_nil]
    exact trodAll_stays hl hp hA (fun x hx => hb.same (hlt x (by simpa using hx))) (fun x hx => by simpa using hlt x (by simpa using hx))
  · rw [hs', hv]
    rfl
  · rw [List.append_nil] at hx
    exact .inr (.inl hx)
variable {W : World}
def Wt (P : Program) (t : TypeId) (d : DataW H) : Prop := ∀ k ∈ d.weights P t, k ≤ reachBytes
theorem wt_each {ts : List TypeId} {ds : List (DataW H)} (h : (DataW.weightsEach P ts ds).all (· ≤ reachBytes) = true) {j : Nat} {t : TypeId} {d : DataW H} (ht : ts[j]? = some t) (hd : ds[j]? = some d) : Wt P t d := fun k hk => by
  have := List.all_eq_true.1 h _ (DataW.weights_mem_each ht hd k hk)
  simpa using this
theorem open_str {t : TypeId} {n : Nat} {cs : List Value} {x : DataW H × List MemPlace} {w : World} {b : Nat} {sp : Nat → Bool} {hd : Bool} (ht : P.underlying t = some .string) (h : DataW.trod enc P w b sp hd n t cs = some x) (hw : Wt P t x.1) : ∃ l : List UInt8, cs = [.string (bs l)] ∧ l.length ≤ reachBytes := by
  obtain ⟨s, rfl, rfl, _⟩ := DataW.trod_string ht h
  exact ⟨s.data.toList, rfl, hw _ (by simp [DataW.weights])⟩
end
end Sx
end Go.Proofs.YtdccjfabdfgomaaGreatDoor

namespace Go.Proofs.YtdccjfabdfgomaaGreatDoor
open Go.RowKit Sx

theorem op_str {H : Type} {enc : TypeId × Value → H} {n : Nat} {cs : List Value} {x : DataW H × List MemPlace} {w : World} {b : Nat} {sp : Nat → Bool} {hd : Bool} (h : DataW.trod enc Tryz.prog w b sp hd n 9 cs = some x) (hw : Wt Tryz.prog 9 x.1) :
    ∃ l : List UInt8, cs = [.string (bs l)] ∧ l.length ≤ 140737488351232 := open_str Tryz.underlying9 h hw
end Go.Proofs.YtdccjfabdfgomaaGreatDoor
