
/- Ro: from a contract ('Tri', with what lay there as what is read alone) to a row that says 'true, and all reads as it did': the arguments opened, the last step. No program is named. Rpb: bytes, strings as arguments of this seat's laws. -/
import Derived.Test.YtgodcegaffgfjaaGreatDoorPu
import Derived.ProofKit
import Derived.OpenShut
import Derived.ShutString
import Derived.ChangeSame
import Derived.Carry
import Derived.SizedLaws
import Derived.Deep.Slices
import Derived.Test.YtgodcegaffgfjaaGreatDoorWd
namespace Go.Proofs.YtgodcegaffgfjaaGreatDoor
open Go.RowKit Go.WideShapes Go.ChangeShapes
namespace Sx
def hpOf (w : World) : Hp := fun b => w.heap[b]?
theorem Tri.below {P : Program} {f : FuncId} {args : List Value} {R : Rt} {W : World} (h : Tri P (hpOf W) f args [] R) : Calls P f args.toArray W fun e W' => ∃ v H, e = .returned v ∧ R v H ∧ Below W.heap.size W W' := by
  have ok : Ok none (hpOf W) [] W emp := ⟨fun b o c => (by cases c), fun b o c => c, fun b => Or.inr rfl, trivial, fun k hk => (by cases hk)⟩
  refine (tri_iff.1 h W emp ok rfl).mono ?_
  rintro e w' ⟨v, H', h', rfl, hR, _, to⟩
  exact ⟨v, H', rfl, hR, to.os, to.tape, to.output, to.size, fun k hk => to.keep k hk rfl⟩
section
variable {H : Type} {enc : TypeId × Value → H} {P : Program}
theorem trodAll_stays (hl : laidOutB P = true) {W W' : World} {sp : Nat → Bool} : ∀ {ts : List TypeId} {vs : List Value} {ds : List (DataW H)} {ps : List MemPlace},
    (ts.all fun t => P.readableRec t && decide (t < P.types.size)) = true → DataW.TrodAll enc P W 0 (fun _ => true) true ts vs ds ps → (∀ p ∈ ps, W.sameAt W' p) → (∀ p ∈ ps, sp p.block = true) →
    DataW.TrodAll enc P W' 0 sp true ts vs ds ps
  | [], [], [], _, _, h, _, _ => h
  | t :: ts, v :: vs, d :: ds, ps, ht, h, h1, h2 => by
    obtain ⟨p, q, ha, hb, rfl⟩ := h
    simp only [List.all_cons, Bool.and_eq_true, decide_eq_true_eq] at ht
    exact ⟨p, q, WideElems.Trod_stays hl ht.1.1 ht.1.2 ha (fun x hx => h1 x (List.mem_append_left _ hx)) (fun x hx => h2 x (List.mem_append_left _ hx)),
      trodAll_stays hl ht.2 hb (fun x hx => h1 x (List.mem_append_right _ hx)) (fun x hx => h2 x (List.mem_append_right _ hx)), rfl⟩
theorem trodAll_len {w : World} {base : Nat} {sp : Nat → Bool} {hd : Bool} : ∀ {ts : List TypeId} {vs : List Value} {ds : List (DataW H)} {ps : List MemPlace}, DataW.TrodAll enc P w base sp hd ts vs ds ps → ds.length = ts.length
  | [], [], [], _, _ => rfl
  | _ :: ts, _ :: vs, _ :: ds, _, h => by
    obtain ⟨p, q, _, hb, _⟩ := h
    simp [trodAll_len hb]
/-- What a row asks of its function: true, and all reads as it did. -/
theorem post_true {fn : Func} {s : ChangeSpec} {W W' : World} {args : Array Value} {ds gs : List (DataW H)} {before : List MemPlace} {tb : TypeId} {fresh handsOn : Bool}
    (hl : laidOutB P = true) (hv : s.vars = []) (hp : (fn.params.toList.all fun t => P.readableRec t && decide (t < P.types.size)) = true)
    (hs : ∀ l : List (DataW H), l.length = fn.params.size → s.fn H l = { results := [.lit (.bool true)], args := l }) (hr : fn.resultTypes = #[tb]) (htb : P.underlying tb = some .bool)
    (hW : DataW.Whole enc P fn.params.toList s.vars false W args.toList ds gs before) (hb : Below W.heap.size W W') : s.post enc P fn false fresh handsOn false W args (.bool true) W' := by
  have hW' := hW
  obtain ⟨p, q, hA, hV, rfl, hz, hn⟩ := hW
  rw [hv] at hV
  obtain ⟨rfl, rfl⟩ := trodVars_none hV
  have hlt : ∀ x ∈ p ++ [], x.block < W.heap.size := fun x hx => hW'.lt x hx
  have hlen : ds.length = fn.params.size := by rw [trodAll_len hA]; simp
  have hs' := hs (ds ++ []) (by simpa using hlen)
  refine ⟨ds, [], p ++ [], [], p, [], hW', ?_, ?_, ?_, World.keptBut_mono (fun x hx => ⟨hx, ?_⟩) (hb.frame (· ∈ p ++ [])), fun c => by cases c⟩
  · rw [hs', hr]
    exact trodAll_cons_mk (shut_bool htb _) trodAll_mk0
  · rw [hs', List.append_nil]
    exact trodAll_stays hl hp hA (fun x hx => hb.same (hlt x (by simpa using hx))) (fun x hx => by simpa using hlt x (by simpa using hx))
  · rw [hs', hv]
    rfl
  · rw [List.append_nil] at hx
    exact .inr (.inl hx)
variable {W : World}
end
end Sx
end Go.Proofs.YtgodcegaffgfjaaGreatDoor

namespace Go.Proofs.YtgodcegaffgfjaaGreatDoor
open Go.RowKit Sx

end Go.Proofs.YtgodcegaffgfjaaGreatDoor
