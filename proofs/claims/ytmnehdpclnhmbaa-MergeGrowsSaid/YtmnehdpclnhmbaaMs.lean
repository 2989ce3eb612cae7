
/- Ms: a string from bytes that are read alone; bytes marked as a string's. No program is named. -/
import Derived.Test.YtmnehdpclnhmbaaPu
namespace Go.Proofs.Ytmnehdpclnhmbaa
open Go.RowKit
namespace Sx
section
variable {P : Program} {l : Option Nat} {r : Hp} {Q : Exit → St} {K : St} {t : List Value} {H : List Ch} {d : Option Tmp} {ty : TypeId} {pos : String} {af : Array Edge} {gd : Option (Nat × Bool)}
theorem freeze_heap (w : World) {b n k : Nat} (h : k ≠ b) : (w.freeze ⟨b, n, none⟩ 1).heap[k]? = w.heap[k]? := by
  unfold World.freeze
  rw [if_neg (by decide)]
  simp [Array.getElem?_modify, Ne.symm h]
theorem freeze_to {ds : List Deferred} {w : World} {b : Nat} {c : Array Value} {E : TypeId} {y : Hp} (d : dj (one b (.cells c E (0, 0))) y) (ok : Ok l r ds w (un (one b (.cells c E (0, 0))) y)) (n : Nat) :
    dj (one b (.cells c E (n, n + 1))) y ∧ To l r ds w (un (one b (.cells c E (0, 0))) y) ds (w.freeze ⟨b, n, none⟩ 1) (un (one b (.cells c E (n, n + 1))) y) := by
  have d' : dj (one b (.cells c E (n, n + 1))) y := fun k => by
    rcases d k with e | e
    · left; unfold one at *; split at e <;> simp_all
    · exact .inr e
  have hb : w.heap[b]? = some (.cells c E (0, 0)) := ok.emb b _ (un_left one_same)
  have hf : w.freeze ⟨b, n, none⟩ 1 = { w with heap := w.heap.modify b fun
      | .cells c elem (lo, hi) => .cells c elem (if lo == hi then (n, n + 1) else (min lo n, max hi (n + 1)))
      | o => o } := by unfold World.freeze; rw [if_neg (by decide)]; rfl
  refine ⟨d', To.step ok (by rw [hf]) (by rw [hf]) (by rw [hf]) (by rw [hf]; simp) ?_ ?_ ?_⟩
  · intro k hk hn
    refine freeze_heap w ?_
    rintro rfl
    have := (un_none.1 hn).1
    simp [one] at this
  · intro k u hk
    rcases un_some hk with hz | hz
    · obtain ⟨rfl, rfl⟩ := one_some hz
      rw [hf]
      simp [Array.getElem?_modify, hb]
    · refine (freeze_heap w ?_).trans (ok.emb k u (un_right d hz))
      intro e
      have h1 := (d k).resolve_left (by rw [show k = b from e]; simp [one])
      rw [h1] at hz; cases hz
  · intro k hk
    rcases un_ne.1 hk with hk | hk
    · left; exact un_ne.2 (.inl (by rw [one_ne hk]; simp [one]))
    · exact .inl (un_ne.2 (.inr hk))
theorem kx_mark {T e E : TypeId} {x : Operand} {b n c : Nat} {cs : List Value} {H' : List Ch} (hT : elB P T = some e) (h8 : u8B P e = true) (hx : evO t x = some (.slice (some ⟨b, 0, none⟩) n c)) (ht : Take (pt b (.cells cs.toArray E (0, 0))) H H')
    (hk : K (putL t d (.slice (some ⟨b, 0, none⟩) n c)) (pt b (.cells cs.toArray E (cs.length, cs.length + 1)) :: H')) : SWo P l r ⟨d, .convert T T x, ty, pos, af, gd⟩ K t H :=
  swo_run (fun c hc => by cases hc) fun w g ds ok al => by
    obtain ⟨x1, y1, dd, rfl, hx1, al'⟩ := ht.all al
    obtain rfl : x1 = one b (.cells cs.toArray E (0, 0)) := hx1
    obtain ⟨d', to⟩ := freeze_to dd ok cs.length
    have hb : w.heap[b]? = some (.cells cs.toArray E (0, 0)) := ok.emb b _ (un_left one_same)
    have hsh : w.shape? b = some (E, cs.length) := by unfold World.shape?; rw [hb]; simp
    refine ⟨.slice (some ⟨b, 0, none⟩) n c, _, _, _, ?_, hk, ⟨_, _, d', rfl, rfl, al'⟩, to⟩
    simp [execOp, ev_of hx, convert, Sem.run_bind, run_underlying (elB_s hT), run_underlying (u8B_s h8), markStringish, hsh, Result.andThen]
end
end Sx
end Go.Proofs.Ytmnehdpclnhmbaa
