
/- A map literal of strings by strings as the kit's laws on maps see it: it fits, what it reads as, its values in any order. No program is named. -/
import Derived.Test.YtgodcegaffgfjaaGreatDoorLitMap
import Derived.Maps.Own
import Derived.Shelf.SlIter.AllValuesS
namespace Go.Proofs.YtgodcegaffgfjaaGreatDoor
open Go.RowKit Go.Maps Go.Sort

section
variable {P : Program} {kt et : TypeId} {H : Type}
theorem rd_ent (hk : P.underlying kt = some .string) (he : P.underlying et = some .string) {k v : List UInt8} (h1 : k.length ≤ maxLen) (h2 : v.length ≤ maxLen) (c : Nat) :
    Go.WideElems.rd (H := H) P kt (plainElem P et) ⟨.string (bs k), .string (bs v), c⟩ = some (.string k, .lit (.string v)) := by
  have e1 : (bs k).size ≤ maxLen := by rw [bs_size]; exact h1
  have e2 : (bs v).size ≤ maxLen := by rw [bs_size]; exact h2
  unfold Go.WideElems.rd
  have e3 : keyOf P kt (.string (bs k)) = some (.string k) := by
    simp [keyOf, hk, mapKey, e1, bs_data]
  rw [e3, plainElem_string he e2]
  rfl
theorem rg_ents (hk : P.underlying kt = some .string) (he : P.underlying et = some .string) : ∀ (l : List (List UInt8 × List UInt8)) (c : Nat), (∀ p ∈ l, p.1.length ≤ maxLen ∧ p.2.length ≤ maxLen) →
    (ents l c).map (Go.WideElems.rg (H := H) P kt (plainElem P et)) = l.map fun p => (.string p.1, .lit (.string p.2))
  | [], _, _ => rfl
  | (k, v) :: l, c, h => by
    have h0 := h (k, v) List.mem_cons_self
    rw [ents, List.map_cons, List.map_cons, rg_ents hk he l (c + 1) fun p hp => h p (List.mem_cons_of_mem _ hp)]
    unfold Go.WideElems.rg
    rw [rd_ent hk he h0.1 h0.2]
    rfl
theorem ents_born : ∀ (l : List (List UInt8 × List UInt8)) (c : Nat), (ents l c).map (·.born) = List.range' c l.length
  | [], _ => rfl
  | (k, v) :: l, c => by rw [ents, List.map_cons, ents_born l (c + 1), List.length_cons, List.range'_succ]
theorem ents_key : ∀ (l : List (List UInt8 × List UInt8)) (c : Nat), (ents l c).map (·.key) = l.map fun p => .string (bs p.1)
  | [], _ => rfl
  | (k, v) :: l, c => by rw [ents, List.map_cons, ents_key l (c + 1), List.map_cons]
theorem fit_ents (hk : P.underlying kt = some .string) (he : P.underlying et = some .string) {l : List (List UInt8 × List UInt8)} (h : ∀ p ∈ l, p.1.length ≤ maxLen ∧ p.2.length ≤ maxLen) (hn : l.length ≤ maxLen) (hd : (l.map (·.1)).Nodup) :
    Go.WideElems.Fit (H := H) P kt (plainElem P et) (entA l) l.length := by
  have hb := ents_born l 0
  have hkk := ents_key l 0
  have hlen : (ents l 0).length = l.length := by have := congrArg List.length hb; simpa using this
  refine ⟨by unfold entA; simpa [hlen] using hn, ⟨fun x hx => ?_, ?_, ?_⟩, fun x hx => ?_⟩
  · have h1 : x.born ∈ (ents l 0).map (·.born) := List.mem_map_of_mem (by simpa [entA] using hx)
    rw [hb] at h1
    simp [List.mem_range'_1] at h1
    exact h1
  · unfold entA
    rw [show (ents l 0).toArray.toList = ents l 0 from rfl, hb]
    exact List.nodup_range'
  · unfold entA
    rw [show (ents l 0).toArray.toList = ents l 0 from rfl, hkk]
    rw [show (fun p : List UInt8 × List UInt8 => Value.string (bs p.1)) = (fun k => Value.string (bs k)) ∘ (·.1) from rfl, ← List.map_map]
    exact List.Pairwise.map _ (fun a b hab e => hab (bs_inj (by injection e))) hd
  · have hx' : x ∈ ents l 0 := by simpa [entA] using hx
    have : ∀ (l : List (List UInt8 × List UInt8)) (c : Nat), x ∈ ents l c → ∃ p ∈ l, ∃ d, x = ⟨.string (bs p.1), .string (bs p.2), d⟩ := by
      intro l
      induction l with
      | nil => intro c hc; cases hc
      | cons p l ih =>
        intro c hc
        rcases List.mem_cons.1 hc with rfl | hc
        · exact ⟨p, List.mem_cons_self, c, rfl⟩
        · obtain ⟨q, hq, d, e⟩ := ih _ hc
          exact ⟨q, List.mem_cons_of_mem _ hq, d, e⟩
    obtain ⟨p, hp, d, rfl⟩ := this l 0 hx'
    exact ⟨_, rd_ent hk he (h p hp).1 (h p hp).2 d⟩
/-- What a literal reads as. -/
def datL (l : List (List UInt8 × List UInt8)) : DataW H := .map ((l.map fun p => (Lit.string p.1, DataW.lit (.string p.2))).foldr DataW.insert [])
theorem own_lit (hk : P.underlying kt = some .string) (he : P.underlying et = some .string) {l : List (List UInt8 × List UInt8)} (h : ∀ p ∈ l, p.1.length ≤ maxLen ∧ p.2.length ≤ maxLen) (hn : l.length ≤ maxLen) (hd : (l.map (·.1)).Nodup) {w : World} {b : Nat} (hb : w.heap[b]? = some (.map (entA l) l.length)) :
    w.ownsMap (H := H) P kt (plainElem P et) b l.length (datL l) := by
  refine ⟨_, _, hb, fit_ents hk he h hn hd, ?_, ?_⟩
  · have := congrArg List.length (ents_born l 0)
    simp at this
    simp [entA, this]
  · unfold entA datL
    rw [show (ents l 0).toArray.toList = ents l 0 from rfl, rg_ents hk he l 0 h]
theorem strKeys_lit (l : List (List UInt8 × List UInt8)) : (strKeys (datL (H := H) l)).Perm (l.map (·.1)) := by
  unfold datL strKeys
  refine ((Go.WideShapes.sorted_perm _).map _).trans ?_
  rw [List.map_map]
  exact List.Perm.of_eq rfl
/-- All pairs that have come: their values are the literal's. -/
theorem vals_perm {l : List (List UInt8 × List UInt8)} {D : DataW H} {ps : List (List UInt8 × List UInt8)} (hk : (strKeys D).Perm (l.map (·.1))) (hv : ∀ p ∈ l, ∃ z, D.atKey (.string p.1) z = .lit (.string ((look l p.1).getD [])))
    (hl : (l.map (·.1)).map (fun x => (look l x).getD []) = l.map (·.2)) (h : AnyYS.AllOf D ps) : (ps.map (·.2)).Perm (l.map (·.2)) := by
  obtain ⟨h1, _, h3⟩ := h
  have h4 := h1.trans hk
  have e : ps.map (·.2) = (ps.map (·.1)).map fun x => (look l x).getD [] := by
    rw [List.map_map]
    refine List.map_congr_left fun p hp => ?_
    have : p.1 ∈ l.map (·.1) := h4.mem_iff.1 (List.mem_map_of_mem hp)
    obtain ⟨q, hq, eq⟩ := List.mem_map.1 this
    obtain ⟨z, hz⟩ := hv q hq
    have := h3 p hp z
    rw [← eq, hz] at this
    simp only [Function.comp, ← eq]
    injection this with e2; injection e2 with e3; exact e3.symm
  rw [e, ← hl]
  exact h4.map _
end
end Go.Proofs.YtgodcegaffgfjaaGreatDoor
