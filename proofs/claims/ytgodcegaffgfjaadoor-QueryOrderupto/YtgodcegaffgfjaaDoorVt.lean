
/- Vt: a region that draws its order, in branches, cut in two by an assertion. No program is named. -/
import Derived.Test.YtgodcegaffgfjaaDoorVp
namespace Go.Proofs.YtgodcegaffgfjaaDoor
open Go.RowKit
namespace Sx
def chkL (ops : Array Oper) (m : Nat) (fin : Array Bool) : Pl → Array Bool → Bool
  | .leaf, li => li == fin
  | .seg π p, li => chkP ops m π li && chkL ops m fin p (lend π li)
  | .two i j a b, li => rdy ops m li == [i, j] && a.dep == b.dep && chkL ops m fin a (li.setIfInBounds i true) && chkL ops m fin b (li.setIfInBounds j true)
section
variable {P : Program} {l : Option Nat} {r : Hp} {ops : Array Oper} {m : Nat} {Q : Exit → St} {t : List Value} {H : List Ch}
theorem swany_of_trN {K : Array Bool → St} {fin : Array Bool} {n : Nat} (hok : okOps ops = true) : ∀ (p : Pl) (li : Array Bool) (t : List Value) (H : List Ch), chkL ops m fin p li = true → SWtr P l r ops (fun t H => SWany P l r ops m K n fin t H) p t H → SWany P l r ops m K (p.dep + n) li t H
  | .leaf, li, t, H, hc, h => by
    unfold chkL at hc
    rw [beq_iff_eq] at hc
    subst hc
    rw [show Pl.leaf.dep + n = n from Nat.zero_add n]
    exact h
  | .seg π p, li, t, H, hc, h => by
    unfold chkL at hc
    rw [Bool.and_eq_true] at hc
    rw [show (Pl.seg π p).dep + n = π.length + (p.dep + n) from Nat.add_assoc _ _ _]
    exact swany_pre hok π li t H hc.1 (swpi_mono π (fun t H h => swany_of_trN hok p _ t H hc.2 h) _ _ h)
  | .two i j a b, li, t, H, hc, h => by
    unfold chkL at hc
    simp only [Bool.and_eq_true, beq_iff_eq] at hc
    obtain ⟨⟨⟨h1, h2⟩, h3⟩, h4⟩ := hc
    rw [show (Pl.two i j a b).dep + n = (a.dep + n) + 1 from Nat.add_right_comm _ _ _]
    refine ⟨fun c => (by rw [h1] at c; cases c), fun x hx => ?_⟩
    rw [h1] at hx
    have hx' : x = i ∨ x = j := by simpa using hx
    rcases hx' with rfl | rfl
    · exact swop_mono h.1 fun t' H' h5 => swany_of_trN hok a _ _ _ h3 h5
    · rw [h2]; exact swop_mono h.2 fun t' H' h5 => swany_of_trN hok b _ _ _ h4 h5
theorem swtr_mono : ∀ (p : Pl) {K K' : St}, (∀ t H, K t H → K' t H) → ∀ t H, SWtr P l r ops K p t H → SWtr P l r ops K' p t H
  | .leaf, _, _, hk, _, _, h => hk _ _ h
  | .seg π p, _, _, hk, _, _, h => swpi_mono π (swtr_mono p hk) _ _ h
  | .two _ _ a b, _, _, hk, _, _, h => ⟨swpi_mono _ (swtr_mono a hk) _ _ h.1, swpi_mono _ (swtr_mono b hk) _ _ h.2⟩
theorem tr_id {K : St} {p : Pl} (h : SWtr P l r ops K p t H) : SWtr P l r ops K p t H := h
theorem sw_drawJ {id : Nat} {H' : List Ch} (m : Nat) (p1 p2 : Pl) (fin1 fin : Array Bool) (π2 : List (Nat × Bool)) (bs : List (Nat × Obj)) (I : Hp → St) (hm : P.follows .mixedOrders = true) (hp : Takes (pts bs) H H')
    (hc : (okOps ops && phase ops m && phase ops ops.size && chkL ops m fin1 p1 (Array.replicate ops.size false) && chkT ops m fin p2 fin1 && chk ops ops.size π2 fin) = true)
    (h1 : ∀ r', Lent r r' bs → SWtr P l r' ops (I r') p1 t H') (h2 : ∀ r', Lent r r' bs → ∀ t' H'', I r' t' H'' → SWtr P l r' ops (fun t' H'' => SWpi P l r ops (Q .normal) π2 t' (pts bs ++ H'')) p2 t' H'') : SW P l r (.region id ops true) Q t H := by
  simp only [Bool.and_eq_true] at hc
  obtain ⟨⟨⟨⟨⟨g1, g2⟩, g3⟩, g4⟩, g5⟩, g6⟩ := hc
  exact sw_draw0 m (p1.dep + p2.dep) fin π2 bs hm hp g1 g2 g3 g6 fun r' hl => swany_of_trN g1 p1 _ t H' g4 (swtr_mono p1 (fun t' H'' hI => swany_of_tr (K := fun li t' H'' => li = fin ∧ SWpi P l r ops (Q .normal) π2 t' (pts bs ++ H'')) g1 p2 _ t' H'' g5 (swtr_mono p2 (fun _ _ h => ⟨rfl, h⟩) _ _ (h2 r' hl t' H'' hI))) _ _ (h1 r' hl))
end
end Sx
end Go.Proofs.YtgodcegaffgfjaaDoor
