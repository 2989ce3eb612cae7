
/- slices.Sort at ints, as a contract over pieces. -/
import Derived.Test.YtmnehdpclnhmbaaNc
import Derived.Test.YtmnehdpclnhmbaaShelf
import Derived.Sort.OwnSortedInts
namespace Go.Proofs.Ytmnehdpclnhmbaa
open Go.RowKit Go.Sort Sx

theorem Sx.tri_rowJ {P : Program} {r : Hp} {f : FuncId} {args : List Value} {R : Rt} {E : TypeId} {sz n c : Nat} {a : Option Addr} {xs : List Value} (hn : 0 < n) (h : ∀ b cur, a = some ⟨b, 0, none⟩ → n ≤ c → c ≤ maxLen → cur.size = c * sz → cur.toList.take (n * sz) = xs → Tri P r f args [pt b (.cells cur E (0, 0))] R) :
    Tri P r f args [RowC E sz (.slice a n c) n xs] R :=
  tri_iff.2 fun w g ok al => by
    obtain ⟨g1, g2, dd, rfl, hR, rfl⟩ := al
    rcases hR.2 with ⟨_, h0, _⟩ | ⟨b, cap, cur, hv, rfl, h1, h2, h3, h4⟩
    · omega
    · injection hv with e1 e2 e3
      subst e3
      exact tri_iff.1 (h b cur e1 h1 h2 h3 h4) w _ ok ⟨_, emp, dd, rfl, rfl, rfl⟩
theorem encJ_map (l : List Int) : l.map (Value.int .i64) = l.flatMap encJ := by
  induction l with
  | nil => rfl
  | cons x l ih => rw [List.map_cons, ih]; rfl
def sortI (l : List Int) : List Int := l.mergeSort fun x y => decide (x ≤ y)
theorem sortI_len (l : List Int) : (sortI l).length = l.length := List.length_mergeSort l
theorem sortI_tri (r : Hp) (a : Option Addr) (c : Nat) (zs : List Int) (hz : zs.length ≤ 10000000) : Tri Try.prog r 45 [.slice a zs.length c] [RowC 3 1 (.slice a zs.length c) zs.length (zs.flatMap encJ)] fun _ H => H = [RowC 3 1 (.slice a zs.length c) zs.length ((sortI zs).flatMap encJ)] := by
  rw [← encJ_map, ← encJ_map]
  by_cases h0 : zs = []
  · subst h0
    rw [show sortI [] = [] by simp [sortI]]
    refine tri_iff.2 fun w g ok al => ?_
    have := Try.slices_Sort_int_none a c w
    refine this.mono fun e w' h => ?_
    obtain ⟨he, hw⟩ := h
    subst hw
    exact ⟨_, _, g, he, rfl, al, To.refl ok⟩
  have hpos : 0 < zs.length := List.length_pos_iff.2 h0
  have hlen := sortI_len zs
  refine tri_rowJ hpos fun b cur ha h1 h2 h3 h4 => ?_
  subst ha
  generalize hC : sortI zs = C at hlen ⊢
  refine tri_cv (tri_inplace (R := fun _ cur' => cur'.size = c * 1 ∧ cur'.toList.take (zs.length * 1) = C.map (Value.int .i64)) fun w ro hb => ?_) fun v H ⟨cur', hH, hs, ht⟩ => ?_
  · have hH : Holds (Value.int .i64) w b 0 zs.toArray := holds_of_blockI hb (by rw [show zs.length = zs.length * 1 by omega]; exact h4)
    refine (Try.slices_Sort_int b 0 c zs w hH (Array.getElem?_eq_some_iff.1 hb).1 (by omega)).mono fun e w' ⟨he, n, os, hw⟩ => ?_
    rw [show (zs.mergeSort fun x y => decide (x ≤ y)) = C from hC] at hw
    have hbs : b < w.heap.size := (Array.getElem?_eq_some_iff.1 hb).1
    refine ⟨_, putCells (Value.int .i64) 0 C.toArray cur, he, ?_, ?_, ?_, ?_⟩
    · rw [hw]
      show ((putRow (Value.int .i64) (Sort.ahead w n) b 0 C.toArray).heap ++ os)[b]? = _
      rw [Array.getElem?_append_left (by simpa [putRow, mapBlock, Sort.ahead] using hbs)]
      simp [putRow, mapBlock, Sort.ahead, Array.getElem?_modify, hb, onCells]
    · rw [hw]
      refine ⟨rfl, rfl, rfl, by simp [grow, putRow, mapBlock, Sort.ahead], fun k hk hne => ?_⟩
      have : b ≠ k := fun e => hne (by rw [e])
      show ((putRow (Value.int .i64) (Sort.ahead w n) b 0 C.toArray).heap ++ os)[k]? = _
      rw [Array.getElem?_append_left (by simpa [putRow, mapBlock, Sort.ahead] using hk)]
      simp [putRow, mapBlock, Sort.ahead, Array.getElem?_modify, this]
    · simp [putCells, h3]
    · have h5 := take_putCellsI cur C (by rw [h3, hlen]; omega)
      rw [hlen] at h5
      rw [Nat.mul_one]
      exact h5
  · refine ⟨[RowC 3 1 (.slice (some ⟨b, 0, none⟩) zs.length c) zs.length (C.map (Value.int .i64))], rfl, fun g hg => ?_⟩
    subst hH
    refine all_imp (fun h e => ?_) hg
    have := RowC.of_pt (E := 3) (sz := 1) (n := zs.length) h1 h2 hs h e
    rwa [ht] at this
end Go.Proofs.Ytmnehdpclnhmbaa
