
/- St: as XSx's drawing of orders in branches, where up to three operations are ready that must not be swapped. No program is named. -/
import Derived.Test.YtmnehdpclnhmbaaSx
namespace Go.Proofs.Ytmnehdpclnhmbaa
open Go.RowKit
namespace Sx
inductive Pm
  | leaf : Pm
  | seg (π : List (Nat × Bool)) (next : Pm) : Pm
  | two (i j : Nat) (a b : Pm) : Pm
  | three (i j k : Nat) (a b c : Pm) : Pm
def SWtm (P : Program) (l : Option Nat) (r : Hp) (ops : Array Oper) (K : St) : Pm → St
  | .leaf, t, H => K t H
  | .seg π p, t, H => SWpi P l r ops (SWtm P l r ops K p) π t H
  | .two i j a b, t, H => SWpi P l r ops (SWtm P l r ops K a) [(i, false)] t H ∧ SWpi P l r ops (SWtm P l r ops K b) [(j, false)] t H
  | .three i j k a b c, t, H => SWpi P l r ops (SWtm P l r ops K a) [(i, false)] t H ∧ SWpi P l r ops (SWtm P l r ops K b) [(j, false)] t H ∧ SWpi P l r ops (SWtm P l r ops K c) [(k, false)] t H
def Pm.dep : Pm → Nat
  | .leaf => 0
  | .seg π p => π.length + p.dep
  | .two _ _ a _ => a.dep + 1
  | .three _ _ _ a _ _ => a.dep + 1
def chkM (ops : Array Oper) (m : Nat) (fin : Array Bool) : Pm → Array Bool → Bool
  | .leaf, li => rdy ops m li == [] && li == fin
  | .seg π p, li => chkP ops m π li && chkM ops m fin p (lend π li)
  | .two i j a b, li => rdy ops m li == [i, j] && a.dep == b.dep && chkM ops m fin a (li.setIfInBounds i true) && chkM ops m fin b (li.setIfInBounds j true)
  | .three i j k a b c, li => rdy ops m li == [i, j, k] && a.dep == b.dep && a.dep == c.dep && chkM ops m fin a (li.setIfInBounds i true) && chkM ops m fin b (li.setIfInBounds j true) && chkM ops m fin c (li.setIfInBounds k true)
section
variable {P : Program} {l : Option Nat} {r : Hp} {ops : Array Oper} {m : Nat} {K : St} {Q : Exit → St} {t : List Value} {H : List Ch}
theorem swany_of_tm {K : Array Bool → St} {fin : Array Bool} (hok : okOps ops = true) : ∀ (p : Pm) (li : Array Bool) (t : List Value) (H : List Ch), chkM ops m fin p li = true → SWtm P l r ops (K fin) p t H → SWany P l r ops m K p.dep li t H
  | .leaf, li, t, H, hc, h => by
    unfold chkM at hc
    simp only [Bool.and_eq_true, beq_iff_eq] at hc
    rw [← hc.2] at h
    exact ⟨hc.1, h⟩
  | .seg π p, li, t, H, hc, h => by
    unfold chkM at hc
    rw [Bool.and_eq_true] at hc
    exact swany_pre hok π li t H hc.1 (swpi_mono π (fun t H h => swany_of_tm hok p _ t H hc.2 h) _ _ h)
  | .two i j a b, li, t, H, hc, h => by
    unfold chkM at hc
    simp only [Bool.and_eq_true, beq_iff_eq] at hc
    obtain ⟨⟨⟨h1, h2⟩, h3⟩, h4⟩ := hc
    refine ⟨fun c => (by rw [h1] at c; cases c), fun x hx => ?_⟩
    rw [h1] at hx
    have hx' : x = i ∨ x = j := by simpa using hx
    rcases hx' with rfl | rfl
    · exact swop_mono h.1 fun t' H' h5 => swany_of_tm hok a _ _ _ h3 h5
    · rw [h2]; exact swop_mono h.2 fun t' H' h5 => swany_of_tm hok b _ _ _ h4 h5
  | .three i j k a b c, li, t, H, hc, h => by
    unfold chkM at hc
    simp only [Bool.and_eq_true, beq_iff_eq] at hc
    obtain ⟨⟨⟨⟨⟨h1, h2⟩, h2'⟩, h3⟩, h4⟩, h5⟩ := hc
    refine ⟨fun c => (by rw [h1] at c; cases c), fun x hx => ?_⟩
    rw [h1] at hx
    have hx' : x = i ∨ x = j ∨ x = k := by simpa using hx
    rcases hx' with rfl | rfl | rfl
    · exact swop_mono h.1 fun t' H' h6 => swany_of_tm hok a _ _ _ h3 h6
    · rw [h2]; exact swop_mono h.2.1 fun t' H' h6 => swany_of_tm hok b _ _ _ h4 h6
    · rw [h2']; exact swop_mono h.2.2 fun t' H' h6 => swany_of_tm hok c _ _ _ h5 h6
theorem swtm_mono : ∀ (p : Pm) {K K' : St}, (∀ t H, K t H → K' t H) → ∀ t H, SWtm P l r ops K p t H → SWtm P l r ops K' p t H
  | .leaf, _, _, hk, _, _, h => hk _ _ h
  | .seg π p, _, _, hk, _, _, h => swpi_mono π (swtm_mono p hk) _ _ h
  | .two _ _ a b, _, _, hk, _, _, h => ⟨swpi_mono _ (swtm_mono a hk) _ _ h.1, swpi_mono _ (swtm_mono b hk) _ _ h.2⟩
  | .three _ _ _ a b c, _, _, hk, _, _, h => ⟨swpi_mono _ (swtm_mono a hk) _ _ h.1, swpi_mono _ (swtm_mono b hk) _ _ h.2.1, swpi_mono _ (swtm_mono c hk) _ _ h.2.2⟩
theorem sw_drawM {id : Nat} {H' : List Ch} (m : Nat) (p : Pm) (fin : Array Bool) (π2 : List (Nat × Bool)) (bs : List (Nat × Obj)) (hm : P.follows .mixedOrders = true) (hp : Takes (pts bs) H H')
    (hc : (okOps ops && phase ops m && phase ops ops.size && chkM ops m fin p (Array.replicate ops.size false) && chk ops ops.size π2 fin) = true)
    (h : ∀ r', Lent r r' bs → SWtm P l r' ops (fun t' H'' => SWpi P l r ops (Q .normal) π2 t' (pts bs ++ H'')) p t H') : SW P l r (.region id ops true) Q t H := by
  simp only [Bool.and_eq_true] at hc
  obtain ⟨⟨⟨⟨h1, h2⟩, h3⟩, h4⟩, h5⟩ := hc
  exact sw_draw0 m p.dep fin π2 bs hm hp h1 h2 h3 h5 fun r' hl => swany_of_tm (K := fun li t' H'' => li = fin ∧ SWpi P l r ops (Q .normal) π2 t' (pts bs ++ H'')) h1 p _ t H' h4 (swtm_mono p (fun t H h => ⟨rfl, h⟩) _ _ (h r' hl))
theorem tm_leaf (h : K t H) : SWtm P l r ops K .leaf t H := h
theorem tm_seg {π : List (Nat × Bool)} {p : Pm} (h : SWpi P l r ops (SWtm P l r ops K p) π t H) : SWtm P l r ops K (.seg π p) t H := h
theorem tm_two {i j : Nat} {a b : Pm} (h1 : SWpi P l r ops (SWtm P l r ops K a) [(i, false)] t H) (h2 : SWpi P l r ops (SWtm P l r ops K b) [(j, false)] t H) : SWtm P l r ops K (.two i j a b) t H := ⟨h1, h2⟩
theorem tm_three {i j k : Nat} {a b c : Pm} (h1 : SWpi P l r ops (SWtm P l r ops K a) [(i, false)] t H) (h2 : SWpi P l r ops (SWtm P l r ops K b) [(j, false)] t H) (h3 : SWpi P l r ops (SWtm P l r ops K c) [(k, false)] t H) : SWtm P l r ops K (.three i j k a b c) t H := ⟨h1, h2, h3⟩
end
end Sx
end Go.Proofs.Ytmnehdpclnhmbaa
