
/- Grams as keys of a map. -/
import Derived.Test.YtdccjfabdfgomaaGreatDoorUl
import Derived.Test.YtdccjfabdfgomaaGreatDoorOa
import Derived.Lib.BytesEntry
import Derived.Shelf.SlSortCmp.NoneTotal
import Derived.Shelf.Lay
import Derived.Ground.SlsfProg
import Derived.Sort.Walk0
import Derived.Deep.QuietTactic
import Derived.BigQuiet
import Derived.Test.YtdccjfabdfgomaaGreatDoorMp
import Derived.DeepKeys4
namespace Go.Proofs
open Go.Shelf
shelf_lay_g SlLaysF0.n6 Slsf 6 at Tryz 40 as Tryz.gSort
end Go.Proofs
namespace Go.Proofs.YtdccjfabdfgomaaGreatDoor
open Go.RowKit Go.Sort Sx

abbrev G3 := UInt8 × UInt8 × UInt8
def txG (g : G3) : Tx := [g.1, g.2.1, g.2.2]
def encG3 (g : G3) : List Value := [.int .u8 g.1.toNat, .int .u8 g.2.1.toNat, .int .u8 g.2.2.toNat]
theorem txG_inj {a b : G3} (h : txG a = txG b) : a = b := by
  obtain ⟨a1, a2, a3⟩ := a
  obtain ⟨b1, b2, b3⟩ := b
  simp only [txG, List.cons.injEq, and_true] at h
  rw [h.1, h.2.1, h.2.2]
/-- How the bytes of two texts compare. -/
def cmpL3 : List UInt8 → List UInt8 → Int := Lib.compareBytes
theorem cmpL3_neg : ∀ a b : List UInt8, cmpL3 a b < 0 ↔ a < b
  | [], [] => by simp [cmpL3, Lib.compareBytes]
  | [], _ :: _ => by simp [cmpL3, Lib.compareBytes]
  | _ :: _, [] => by simp [cmpL3, Lib.compareBytes]
  | a :: l, b :: m => by
    have ih := cmpL3_neg l m
    unfold cmpL3 at ih ⊢
    unfold Lib.compareBytes
    rw [List.cons_lt_cons_iff]
    by_cases h1 : a < b
    · rw [if_pos h1]; simp [h1]
    · rw [if_neg h1]
      by_cases h2 : b < a
      · rw [if_pos h2]
        have : ¬ a = b := fun e => by rw [e] at h2; exact absurd h2 (UInt8.lt_irrefl b)
        simp [h1, this]
      · rw [if_neg h2, ih]
        have : a = b := UInt8.le_antisymm (UInt8.not_lt.1 h2) (UInt8.not_lt.1 h1)
        simp [this]
set_option maxRecDepth 100000 in
set_option maxHeartbeats 1000000 in
theorem bcmp_w (b c : Nat) (x y : G3) (W : World) (E1 E2 : TypeId) (f1 f2 : Nat × Nat) (h1 : W.heap[b]? = some (.cells (encG3 x).toArray E1 f1)) (h2 : W.heap[c]? = some (.cells (encG3 y).toArray E2 f2)) : Calls Tryz.prog 42 #[.slice (some ⟨b, 0, none⟩) 3 3, .slice (some ⟨c, 0, none⟩) 3 3] W fun e w' => e = .returned (.int .i64 (cmpL3 (txG x) (txG y))) ∧ w' = W := by
  have hr : ∀ (d : Nat) (z : G3) (E : TypeId) (f : Nat × Nat), W.heap[d]? = some (.cells (encG3 z).toArray E f) → (Extern.Bytes.bytesOf (.slice (some ⟨d, 0, none⟩) 3 3)).run Tryz.prog W = .ok ⟨(txG z).toArray⟩ W := fun d z E f h => by
    have hl := Lib.run_loadBytesX (P := Tryz.prog) W [z.1.toNat, z.2.1.toNat, z.2.2.toNat] ⟨d, 0, none⟩ .empty (fun j u hj => by
      unfold World.cell?
      have e : (⟨d, 0, none⟩ : Addr).add j = ⟨d, j, none⟩ := by unfold Addr.add; split <;> simp_all
      rw [e]
      simp only [h]
      match j, hj with
      | 0, hj => simp at hj; subst hj; rfl
      | 1, hj => simp at hj; subst hj; rfl
      | 2, hj => simp at hj; subst hj; rfl
      | _ + 3, hj => simp at hj)
    show (Extern.Bytes.loadBytes ⟨d, 0, none⟩ 3 .empty).run Tryz.prog W = _
    rw [show (3 : Nat) = [(z.1.toNat : Int), z.2.1.toNat, z.2.2.toNat].length from rfl, hl]
    congr 1
    apply ByteArray.ext
    simp [Lib.bytesOf, txG]
  have hx := hr b x E1 f1 h1
  have hy := hr c y E2 f2 h2
  have hc : (Extern.BytealgCompare.compare #[.slice (some ⟨b, 0, none⟩) 3 3, .slice (some ⟨c, 0, none⟩) 3 3]).run Tryz.prog W = .ok (.int .i64 (cmpL3 (txG x) (txG y))) W := by
    change Sem.run Tryz.prog (do pure (goInt (Extern.BytealgCompare.cmp (← Extern.Bytes.bytesOf (.slice (some ⟨b, 0, none⟩) 3 3)) (← Extern.Bytes.bytesOf (.slice (some ⟨c, 0, none⟩) 3 3))))) W = _
    simp only [Sem.run_bind, hx, hy, Sem.run_pure, Result.andThen]
    rw [Lib.cmp_eq]
    rfl
  go_enter Tryz.func42, Tryz.ntmps42
  go_wp2
  rw [run_callFunc_extern Tryz.func71 (by kernel_rfl) (by kernel_rfl) (by kernel_rfl) (e := Extern.BytealgCompare.compare) (by kernel_rfl), hc]
  simp only [Result.andThen]
  rw [Oper.upon_value]
  go_wp2
  go_ret
  exact ⟨rfl, rfl⟩
theorem alloc2_a (W : World) (o1 o2 : Obj) (n : Nat) : (((W.alloc o1).alloc o2).drewN n).heap[W.heap.size]? = some o1 := by
  show ((W.heap.push o1).push o2)[W.heap.size]? = _
  rw [Array.getElem?_push_lt (by simp), Array.getElem_push_eq]
theorem alloc2_b (W : World) (o1 o2 : Obj) (n : Nat) : (((W.alloc o1).alloc o2).drewN n).heap[W.heap.size + 1]? = some o2 := by
  show ((W.heap.push o1).push o2)[W.heap.size + 1]? = _
  rw [show W.heap.size + 1 = (W.heap.push o1).size by simp, Array.getElem?_push_size]
set_option maxRecDepth 100000 in
set_option maxHeartbeats 2000000 in
theorem places1_w (x y : G3) (W : World) : Calls Tryz.prog 41 #[.agg (encG3 x).toArray, .agg (encG3 y).toArray] W fun e w' => e = .returned (.int .i64 (cmpL3 (txG x) (txG y))) ∧ ∃ q os', w' = grow (W.drewN q) os' := by
  have hcon := fun b c W' E1 E2 f1 f2 h1 h2 => bcmp_w b c x y W' E1 E2 f1 f2 h1 h2
  generalize cmpL3 (txG x) (txG y) = z at hcon ⊢
  go_enter Tryz.func41, Tryz.ntmps41
  go_wp2
  go_quiet (first | (go_at_call 42; refine Calls.quiet_of_same (hcon _ _ _ _ _ _ _ (alloc2_a _ _ _ _) (alloc2_b _ _ _ _))))
  go_wp2
  go_ret
  exact ⟨rfl, _, _, by rw [alloc_eq_grow, alloc_eq_grow, grow_grow]; rfl⟩
theorem flat_get3 {α : Type} (enc : α → List Value) (h : ∀ x, (enc x).length = 3) : ∀ (l : List α) (t : Nat), (l.flatMap enc)[t]? = l[t / 3]?.bind fun x => (enc x)[t % 3]?
  | [], t => by simp
  | x :: l, t => by
    rw [List.flatMap_cons, List.getElem?_append, h]
    by_cases c : t < 3
    · rw [if_pos c, show t / 3 = 0 by omega, show t % 3 = t by omega]; rfl
    · rw [if_neg c, flat_get3 enc h l (t - 3), show t / 3 = (t - 3) / 3 + 1 by omega, show t % 3 = (t - 3) % 3 by omega]; rfl
theorem flatK3 (l : List G3) : (flatK encG3 3 l.toArray).toList = l.flatMap encG3 := by
  apply List.ext_getElem?
  intro t
  rw [flat_get3 encG3 (fun _ => rfl), Array.getElem?_toList]
  by_cases c : t < l.length * 3
  · have h1 : t < (flatK encG3 3 l.toArray).size := by simpa using c
    have h2 := get_flatK encG3 3 l.toArray t (by simpa using c)
    have h3 : t / 3 < l.length := by omega
    rw [getElem!_pos _ t h1, getElem!_pos l.toArray (t / 3) (by simpa using h3)] at h2
    rw [Array.getElem?_eq_getElem h1, h2, List.getElem?_eq_getElem h3, Option.bind_some]
    have h4 : t % 3 < (encG3 l[t / 3]).length := by show t % 3 < 3; omega
    rw [List.getElem?_eq_getElem h4, List.getElem_toArray, getElem!_pos (encG3 l[t / 3]) (t % 3) h4]
  · rw [Array.getElem?_eq_none (by simp; omega), List.getElem?_eq_none (by omega)]; rfl
theorem holdsG {w : World} {g : Nat} {cur : Array Value} {e : TypeId} {vs : Array Value} (hb : w.heap[g]? = some (.cells cur e (0, 0))) (ht : cur.toList.take vs.size = vs.toList) : Holds id w g 0 vs := by
  intro j hj
  refine ⟨?_, by simp [World.frozen?, hb]⟩
  have h1 : (cur.toList.take vs.size)[j]? = vs.toList[j]? := by rw [ht]
  rw [List.getElem?_take_of_lt hj] at h1
  simp only [World.cell?, hb, Nat.zero_add]
  simp only [Option.isSome_none, Bool.false_eq_true, if_false]
  rw [← Array.getElem?_toList, h1]
  simp [hj]
theorem takePutG (cur vs : Array Value) (h : vs.size ≤ cur.size) : (putCells id 0 vs cur).toList.take vs.size = vs.toList := by
  apply List.ext_getElem?
  intro j
  by_cases hj : j < vs.size
  · rw [List.getElem?_take_of_lt hj, Array.getElem?_toList]
    simp [putCells, hj, show j < cur.size by omega]
  · rw [List.getElem?_take_eq_none (by omega), List.getElem?_eq_none (by simp; omega)]
theorem ltG (x y : G3) : ltOf (fun x y : G3 => cmpL3 (txG x) (txG y)) x y = decide (txG x < txG y) := by
  show decide _ = _
  rw [decide_eq_decide]
  exact cmpL3_neg _ _
theorem swoG : SWO (ltOf fun x y : G3 => cmpL3 (txG x) (txG y)) where
  irrefl x := by rw [ltG]; simp
  trans x y z h1 h2 := by
    rw [ltG, decide_eq_true_eq] at *
    exact List.lt_trans h1 h2
  ntrans x y z h1 h2 := by
    rw [ltG, decide_eq_false_iff_not] at *
    exact List.not_lt.2 (List.le_trans (List.not_lt.1 h2) (List.not_lt.1 h1))
set_option maxHeartbeats 1000000 in
theorem sortG_tri (r : Hp) (a : Option Addr) (c : Nat) (fs : List G3) (hn : fs.Nodup) (hl : fs.length ≤ 10000000) :
    Tri Tryz.prog r 40 [.slice a fs.length c, .func (.func 41) #[] #[]] [RowC 64 3 (.slice a fs.length c) fs.length (fs.flatMap encG3)] fun _ H => ∃ gs : List G3, gs.Perm fs ∧ gs.Pairwise (fun x y => txG x < txG y) ∧ H = [RowC 64 3 (.slice a fs.length c) fs.length (gs.flatMap encG3)] := by
  by_cases h0 : fs = []
  · subst h0
    refine tri_iff.2 fun w g ok al => ?_
    refine (AnyF.slices_SortFunc_none Tryz.gSort a c _ w).mono fun e w' h => ?_
    obtain ⟨he, hw⟩ := h
    subst hw
    exact ⟨_, _, g, he, ⟨[], List.Perm.refl _, List.Pairwise.nil, rfl⟩, al, To.refl ok⟩
  have hpos : 0 < fs.length := List.length_pos_iff.2 h0
  refine tri_rowS hpos fun b cur ha h1 h2 h3 h4 => ?_
  subst ha
  have eg : ∀ args w, (callFunc 41 args).run Tryz.prog w = .ok (.enter 41 args) w := enters_of Tryz.func41 (by kernel_rfl) rfl
  refine tri_cv (tri_inplace (R := fun _ cur' => ∃ gs : List G3, gs.Perm fs ∧ gs.Pairwise (fun x y => txG x < txG y) ∧ cur'.size = c * 3 ∧ cur'.toList.take (fs.length * 3) = gs.flatMap encG3) fun w ro hb => ?_) fun v H ⟨cur', hH, gs, hp, hq, hs, ht⟩ => ?_
  · have hbs : b < w.heap.size := (Array.getElem?_eq_some_iff.1 hb).1
    have hH : HoldsK encG3 3 w b 0 fs.toArray := holdsG hb (by rw [flatK3, size_flatK]; exact h4)
    have hcmp : CmpLays Tryz.prog 41 #[] encG3 3 (fun x y : G3 => cmpL3 (txG x) (txG y)) b 0 fs.toArray.size w := fun m os dk _ x y => by
      rw [Array.append_empty]
      exact places1_w x y _
    refine (AnyQ.slices_SortFunc Tryz.gSort 3 Tryz.isAgg64 Tryz.sizeOf64 encG3 (fun _ => rfl) (fun x v hv => by
      simp only [encG3, List.mem_cons, List.not_mem_nil, or_false] at hv
      rcases hv with rfl | rfl | rfl <;> rfl) (fun x y : G3 => cmpL3 (txG x) (txG y)) swoG 41 #[] b 0 c fs.toArray w eg hcmp hH hbs (by show fs.length < _; omega)).mono fun e w' ⟨he, d', n, os, hp, hs, hw⟩ => ?_
    obtain ⟨gs, rfl⟩ : ∃ gs : List G3, gs.toArray = d' := ⟨d'.toList, by simp⟩
    have hsz : gs.length = fs.length := hp.1
    have hpf : gs.Perm fs := by
      have h := hp.2.2
      have e1 : (gs.toArray.extract 0 fs.toArray.size).toList = gs := by simp [← hsz]
      have e2 : (fs.toArray.extract 0 fs.toArray.size).toList = fs := by simp
      rwa [e1, e2] at h
    have hgn : gs.Nodup := hpf.nodup_iff.2 hn
    refine ⟨_, putCells id 0 (flatK encG3 3 gs.toArray) cur, he, ?_, ?_, gs, hpf, ?_, ?_, ?_⟩
    · rw [hw]
      show ((putRow id (Sort.ahead w n) b 0 (flatK encG3 3 gs.toArray)).heap ++ os)[b]? = _
      rw [Array.getElem?_append_left (by simpa [putRow, mapBlock, Sort.ahead] using hbs)]
      simp [putRow, mapBlock, Sort.ahead, Array.getElem?_modify, hb, onCells]
    · rw [hw]
      refine ⟨rfl, rfl, rfl, by simp [sortWorldK, putRowK, grow, putRow, mapBlock, Sort.ahead], fun k hk hne => ?_⟩
      have : b ≠ k := fun e => hne (by rw [e])
      show ((putRow id (Sort.ahead w n) b 0 (flatK encG3 3 gs.toArray)).heap ++ os)[k]? = _
      rw [Array.getElem?_append_left (by simpa [putRow, mapBlock, Sort.ahead] using hk)]
      simp [putRow, mapBlock, Sort.ahead, Array.getElem?_modify, this]
    · refine List.pairwise_iff_getElem.2 fun i j hi hj hij => ?_
      have h := hs i j (Nat.zero_le _) hij (by show j < fs.length; omega)
      rw [ltG, decide_eq_false_iff_not, getElem!_pos gs.toArray i (by simpa using hi), getElem!_pos gs.toArray j (by simpa using hj)] at h
      simp only [List.getElem_toArray] at h
      refine tx_tri h fun e => ?_
      exact List.pairwise_iff_getElem.1 hgn i j (by simpa using hi) (by simpa using hj) hij (txG_inj e).symm
    · simp [putCells, h3]
    · have h5 := takePutG cur (flatK encG3 3 gs.toArray) (by rw [size_flatK, h3]; show gs.length * 3 ≤ _; rw [hsz]; exact Nat.mul_le_mul_right 3 h1)
      rw [flatK3, size_flatK] at h5
      rw [← hsz]
      exact h5
  · refine ⟨[RowC 64 3 (.slice (some ⟨b, 0, none⟩) fs.length c) fs.length (gs.flatMap encG3)], ⟨gs, hp, hq, rfl⟩, fun g hg => ?_⟩
    subst hH
    refine all_imp (fun h e => ?_) hg
    have := RowC.of_pt (E := 64) (sz := 3) (n := fs.length) h1 h2 hs h e
    rwa [ht] at this
end Go.Proofs.YtdccjfabdfgomaaGreatDoor

namespace Go.Proofs.YtdccjfabdfgomaaGreatDoor
open Go.RowKit Go.Maps Sx

theorem gramK_law : Keyed Tryz.prog 64 :=
  Keyed.of_law (deep_law_laid (by kernel_rfl) (m := 2) (by omega) (of_decide_eq_true (by kernel_rfl)) (by kernel_rfl) (by rw [Tryz.underlying64]))
theorem byteBE (n : UInt8) : bytesBE (IntKind.u8.bits / 8) (((n.toNat : Int)) % 2 ^ IntKind.u8.bits).toNat = [n] := by
  have h := n.toNat_lt
  have e : (((n.toNat : Int)) % 2 ^ IntKind.u8.bits).toNat = n.toNat := by
    show (((n.toNat : Int)) % 256).toNat = n.toNat
    omega
  rw [e]
  show (bytesLE 1 n.toNat).reverse = [n]
  simp [bytesLE, Nat.mod_eq_of_lt h]
theorem gram_key (g : G3) : keyOf Tryz.prog 64 (.agg (encG3 g).toArray) = some (.string (txG g)) := by
  obtain ⟨a, b, c⟩ := g
  have hkt : Tryz.prog.keyType 64 = true := by kernel_rfl
  have hcl : Tryz.prog.cellsOf 64 = 3 := by kernel_rfl
  have hc1 : Tryz.prog.cellsOf 5 = 1 := by kernel_rfl
  have hfm : (Value.agg (encG3 (a, b, c)).toArray).formed Tryz.prog 64 = true := by simp [Value.formed, Tryz.underlying64, hcl, encG3]
  have hpos : 0 < Tryz.prog.types.size := of_decide_eq_true (by kernel_rfl)
  obtain ⟨m, hm⟩ : ∃ m, Tryz.prog.types.size = m + 1 := ⟨Tryz.prog.types.size - 1, by omega⟩
  have h1 : ∀ n : UInt8, Tryz.prog.keyLits (m + 1) 5 [.int .u8 n.toNat] = some [.int .u8 n.toNat] := fun n => by
    have h := n.toNat_lt
    unfold Program.keyLits
    rw [Tryz.underlying5]
    simp [Lit.wf, IntKind.min, IntKind.max, IntKind.signed, IntKind.bits]
    omega
  unfold keyOf
  rw [Tryz.underlying64]
  simp only [hkt, hfm, Bool.and_self, if_true]
  unfold Program.keyLits
  rw [Tryz.underlying64, hm]
  simp only [Value.cells, encG3, List.length_cons, List.length_nil, hcl, if_true, hc1]
  simp only [List.range_succ, List.range_zero, List.nil_append, List.cons_append, List.mapM_cons, List.mapM_nil, Nat.zero_mul, Nat.one_mul, List.drop_zero, List.drop_succ_cons, List.take_succ_cons, List.take_zero]
  simp only [h1]
  simp [keyBytes, Lit.keyBytes, byteBE, txG]
end Go.Proofs.YtdccjfabdfgomaaGreatDoor
