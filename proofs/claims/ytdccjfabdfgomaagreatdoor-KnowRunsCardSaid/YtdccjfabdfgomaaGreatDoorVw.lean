
/- Queries written out in a block; And, Or of these; how much And and Or hold. -/
import Derived.Test.YtdccjfabdfgomaaGreatDoorVm
namespace Go.Proofs.YtdccjfabdfgomaaGreatDoor
open Go.RowKit Sx

theorem size_mk (k n : Int) (Gs : List Tx) (S : List Qu) : sizeQ (mkQ k n Gs S) ≤ 1 + sizeT Gs + sizeQs S := by
  obtain ⟨h1, h2⟩ := size_sort Gs S
  rcases mkQ_cases k n Gs S with ⟨h, e⟩ | ⟨g, e1, e2, e⟩ | ⟨q, e1, e2, e⟩ | ⟨_, _, e⟩
  · rw [e]; simp only [sizeQ]; omega
  · rw [e]; rw [e1] at h1; simp only [sizeQ, sizeQs]; omega
  · rw [e]; rw [e2] at h2; simp only [sizeQs] at h2; omega
  · rw [e]; simp only [sizeQ, sizeQs, sizeT]; omega
theorem size_andQ (l : List Qu) : sizeQ (andQ l) ≤ 1 + sizeQs l := by
  have h := size_flat size_gA l
  unfold andQ
  split
  · simp only [sizeQ, sizeQs, sizeT]; omega
  · have := size_mk 3 1 (l.flatMap gA) (l.flatMap sA); omega
theorem size_orQ (l : List Qu) : sizeQ (orQ l) ≤ 1 + sizeQs l := by
  have h := size_flat size_gO l
  unfold orQ
  split
  · simp only [sizeQ, sizeQs, sizeT]; omega
  · have := size_mk 4 2 (l.flatMap gO) (l.flatMap sO); omega
/-- A row of queries that is written out in a block. -/
theorem lit_els {r : Hp} {b n : Nat} {l : List QuV} {c : List Value} {E : TypeId} {fz : Nat × Nat} (h : r b = some (.cells c.toArray E fz)) (hc : l.flatMap encQ = c) (hn : l.length = n) (hm : n ≤ 1000) : Els r 3 encQ (.slice (some ⟨b, 0, none⟩) n n) l := by
  subst hn
  refine ⟨fun _ => rfl, flat_len (sz := 3) (fun _ => rfl) l, by unfold maxLen; omega, .inr ⟨b, 0, _, c.toArray, E, fz, rfl, Nat.le_refl _, h, fun j hj => ?_⟩⟩
  subst hc
  rw [Nat.zero_add, List.getElem?_toArray, List.getElem?_eq_getElem hj]
theorem lit_txs {r : Hp} {b n : Nat} {l : List Tx} {c : List Value} {E : TypeId} {fz : Nat × Nat} (h : r b = some (.cells c.toArray E fz)) (hc : l.flatMap encTx = c) (hn : l.length = n) (hm : n ≤ 1000) : Els r 1 encTx (.slice (some ⟨b, 0, none⟩) n n) l := by
  subst hn
  refine ⟨fun _ => rfl, flat_len (sz := 1) (fun _ => rfl) l, by unfold maxLen; omega, .inr ⟨b, 0, _, c.toArray, E, fz, rfl, Nat.le_refl _, h, fun j hj => ?_⟩⟩
  subst hc
  rw [Nat.zero_add, List.getElem?_toArray, List.getElem?_eq_getElem hj]
theorem andLit_any (r : Hp) (hT : TabR r) {b n : Nat} (l : List QuV) {c : List Value} {E : TypeId} {fz : Nat × Nat} (h : r b = some (.cells c.toArray E fz)) (hc : l.flatMap encQ = c) (hn : l.length = n) (hm : n ≤ 1000) (hl : ∀ q ∈ l, QuR r q) (hr : Right (l.map QuV.key)) (hs : sizeQs (l.map QuV.key) ≤ 8000000) : Tri Tryz.prog r 22 [.slice (some ⟨b, 0, none⟩) n n] [] fun w H => ∃ q : QuV, q.key = andQ (l.map QuV.key) ∧ (encQ q).all one? = true ∧ w = .agg [.int .i64 q.kind, q.gv, q.sv].toArray ∧ H = [OwnQ q] :=
  and_any r hT _ l (lit_els h hc hn hm) hl (told_right (right_sA hr)) hs
theorem orLit_any (r : Hp) (hT : TabR r) {b n : Nat} (l : List QuV) {c : List Value} {E : TypeId} {fz : Nat × Nat} (h : r b = some (.cells c.toArray E fz)) (hc : l.flatMap encQ = c) (hn : l.length = n) (hm : n ≤ 1000) (hl : ∀ q ∈ l, QuR r q) (hr : Right (l.map QuV.key)) (hs : sizeQs (l.map QuV.key) ≤ 8000000) : Tri Tryz.prog r 36 [.slice (some ⟨b, 0, none⟩) n n] [] fun w H => ∃ q : QuV, q.key = orQ (l.map QuV.key) ∧ (encQ q).all one? = true ∧ w = .agg [.int .i64 q.kind, q.gv, q.sv].toArray ∧ H = [OwnQ q] :=
  or_any r hT _ l (lit_els h hc hn hm) hl (told_right (right_sO hr)) hs
theorem right_n2 : rightQ (.mk 2 [] []) = true := right_iff.2 .none
theorem right_two {a b : Qu} (ha : rightQ a = true) (hb : rightQ b = true) : Right [a, b] := fun q hq => by
  rcases List.mem_cons.1 hq with rfl | hq
  · exact ha
  · rw [List.mem_singleton.1 hq]; exact hb
theorem two_read {r : Hp} {a b : QuV} (ha : QuR r a) (hb : QuR r b) : ∀ q ∈ [a, b], QuR r q := fun q hq => by
  rcases List.mem_cons.1 hq with rfl | hq
  · exact ha
  · rw [List.mem_singleton.1 hq]; exact hb
end Go.Proofs.YtdccjfabdfgomaaGreatDoor
