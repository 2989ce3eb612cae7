
/- strings.Repeat, strings.ToUpper, strings.Split at LangPaths' texts: by the shelf's laws. -/
import Derived.Test.YtgodcegaffgfjaaGreatDoorLq
import Derived.Test.YtgodcegaffgfjaaGreatDoorShelf
import Derived.Shelf.Strings.Repeat
import Derived.Shelf.Strings.OnBuilder
import Derived.Shelf.Strings.Split
namespace Go.Proofs.YtgodcegaffgfjaaGreatDoor
open Go.RowKit Sx

theorem Sx.tri_below {P : Program} {r : Hp} {f : FuncId} {args : List Value} {v : Value} (h : ∀ w, Calls P f args.toArray w fun e w' => e = .returned v ∧ Below w.heap.size w w') : Tri P r f args [] fun u H => u = v ∧ H = [] :=
  tri_iff.2 fun w g ok al => (h w).mono fun e w' ⟨he, hb⟩ => ⟨_, [], g, he, ⟨rfl, rfl⟩, al, To.step ok hb.os hb.tape hb.output hb.size (fun k hk _ => hb.block k hk) (fun k u e => by
    have h1 := ok.emb k u e
    rw [hb.block k (Array.getElem?_eq_some_iff.1 h1).1]
    exact h1) (fun _ c => .inl c)⟩
theorem rep_any : RepT := fun r s n ni hni h1 h2 h3 h4 => by
  subst hni
  have hs : 0 < s.length := List.length_pos_iff.2 h4
  have hm : s.length * n ≤ 2 * 300 := Nat.mul_le_mul h1 h3
  refine tri_cv (tri_below fun w => Tryz.strings_Repeat_main (bs s) n w h2 (by omega) (by rw [bs_size]; omega) (by rw [bs_size]; omega)) ?_
  rintro v H1 ⟨rfl, rfl⟩
  refine ⟨[], ⟨⟨_, rfl, ?_⟩, rfl⟩, fun _ h => h⟩
  rw [Lib.repeatL_length, bs_data, Nat.mul_comm]
  omega
theorem upper_any : UpperT := fun r p h1 h2 => by
  refine tri_cv (tri_below fun w => Tryz.strings_ToUpper_ascii (bs p) w (by rw [bs_size]; omega) (fun j b hb => h2 b ?_)) ?_
  · rw [bs_data] at hb
    exact List.mem_of_getElem? hb
  rintro v H1 ⟨rfl, rfl⟩
  refine ⟨[], ⟨⟨_, rfl, ?_⟩, rfl⟩, fun _ h => h⟩
  simp only [Lib.toUpperA, List.length_map, bs_data]
  omega
def piecesL : List Tx := Lib.splitK [32] 0 (extsL.count 32) extsL
theorem pieces_ok : (piecesL.length ≤ 100 ∧ ∀ p ∈ piecesL, 1 ≤ p.length ∧ p.length ≤ 100 ∧ ∀ b ∈ p, b.toNat < 128) := by decide +kernel
theorem encTx_one (l : List ByteArray) : l.map Value.string = (l.map (·.data.toList)).flatMap encTx := by
  induction l with
  | nil => rfl
  | cons x l ih => rw [List.map_cons, ih]; rfl
theorem gen_any (r : Hp) : Tri Tryz.prog r 23 [.string (bs extsL), .string (bs [32]), .int .i64 0, .int .i64 (-1)] [] fun w H => ∃ b : Nat, w = .slice (some ⟨b, 0, none⟩) piecesL.length piecesL.length ∧ H = [RowC 9 1 (.slice (some ⟨b, 0, none⟩) piecesL.length piecesL.length) piecesL.length (piecesL.flatMap encTx)] := by
  refine tri_iff.2 fun w g ok al => ?_
  obtain rfl : g = emp := al
  have h1 : 1 ≤ (bs [32]).size := by rw [bs_size]; decide
  have hc : Lib.countB (bs extsL) (bs [32]) = extsL.count 32 := Lib.count_one 32 extsL
  have hsz : (bs extsL).size ≤ 1000 := by rw [bs_size]; decide
  have hle : extsL.count 32 ≤ (bs extsL).size := by rw [bs_size]; exact List.count_le_length
  have hd : (Lib.splitB (bs [32]) 0 (extsL.count 32) (bs extsL)).map (·.data.toList) = piecesL := Lib.splitB_data _ _ _ _
  have hl : (Lib.splitB (bs [32]) 0 (extsL.count 32) (bs extsL)).length = extsL.count 32 + 1 := Lib.splitB_all _ h1 0 _ _ hc
  have hpl : piecesL.length = extsL.count 32 + 1 := by rw [← hd, List.length_map, hl]
  have c := Any.strings_genSplit_core Tryz.lays221 (by kernel_rfl) (bs extsL) (bs [32]) 0 (-1) (extsL.count 32 + 1) w (by omega) h1 (Nat.zero_le _)
    (fun x c _ => by
      have := Tryz.strings_Index_one x 32 (w.alloc (.cells c 9))
      rw [show Lib.indexB x (bs [32]) = Lib.indexByte x.data.toList 32 from Lib.index_one x.data.toList 32]
      exact this)
    (by rw [hc]; exact Tryz.strings_Count_one (bs extsL) 32 w)
    (by decide) (by decide) (by rw [hc, if_pos (by decide)]; omega)
  rw [Nat.add_sub_cancel, hl] at c
  refine Calls.mono c fun e w' ⟨he, hw⟩ => ?_
  subst hw he
  have hcells : (Lib.cellsOf (Lib.splitB (bs [32]) 0 (extsL.count 32) (bs extsL)) (extsL.count 32 + 1)) = (piecesL.flatMap encTx).toArray := by
    rw [← hl, Lib.cellsOf_full, encTx_one, hd]
  have hfl : (piecesL.flatMap encTx).length = piecesL.length := by decide +kernel
  rw [hcells]
  have hp := pieces_ok.1
  clear hd hc c
  generalize piecesL.flatMap encTx = xs at hfl hcells ⊢
  have hne : (w.alloc (.cells xs.toArray 9)).heap[w.heap.size]? = some (.cells xs.toArray 9 (0, 0)) := World.alloc_heap_new w _
  clear hcells
  generalize piecesL = ps at hp hpl hfl ⊢
  generalize extsL.count 32 = m at hpl ⊢
  rw [← hpl]
  have hpush : ∀ k, k < w.heap.size → (w.alloc (.cells xs.toArray 9)).heap[k]? = w.heap[k]? := fun k hk => by
    show (w.heap.push _)[k]? = _
    rw [Array.getElem?_push, if_neg (Nat.ne_of_lt hk)]
  have hsz2 : w.heap.size ≤ (w.alloc (.cells xs.toArray 9)).heap.size := by
    show _ ≤ (w.heap.push _).size
    rw [Array.size_push]
    omega
  refine ⟨_, _, Sx.one w.heap.size (.cells xs.toArray 9 (0, 0)), rfl, ⟨_, rfl, rfl⟩, ⟨_, emp, dj_emp, un_emp.symm, ⟨by rw [hfl, Nat.mul_one], .inr ⟨w.heap.size, _, xs.toArray, rfl, rfl, Nat.le_refl _, ?_, by rw [Nat.mul_one]; exact hfl, by rw [Nat.mul_one, ← hfl]; exact List.take_length⟩⟩, rfl⟩, ?_⟩
  · unfold maxLen
    omega
  · refine To.step ok rfl rfl rfl hsz2 (fun k hk _ => hpush k hk) (fun k u hk => by obtain ⟨rfl, rfl⟩ := one_some hk; exact hne) (fun k hk => .inr ?_)
    have := one_ne hk
    omega
theorem split_any : SplitT := by
  unfold SplitT
  intro r
  refine Tri.free2 fun R HR => ?_
  refine fn_of_sw Tryz.func6 rfl _ rfl ?_; refine aen Tryz.ntmps6 ?_
  repeat' (first | (refine acl Tryz.func23 ?_; refine acr (gen_any _) ?_; rintro v' H' ⟨b, rfl, rfl⟩; all_goals refine apl ?_) | refine aw0 ?_ | (refine ap2 ?_ ?_ <;> try intro h) | refine aw1 ?_ | (refine abx ?_; intro bb) | (refine abz ?_; intro bz) | (refine ahv ?_; intro v' hv') | (refine aac ?_; intro ac cc) | refine aw2 ?_ | (refine ap4 ?_ ?_ <;> try intro h) | apply True.intro)
  ((with_reducible apply fp_ret); exact res_1 rfl rfl)
  exact HR.out _ _ _ [_] (by (exact atks)) ⟨_, _, piecesL, pieces_ok, rfl, rfl⟩
end Go.Proofs.YtgodcegaffgfjaaGreatDoor
