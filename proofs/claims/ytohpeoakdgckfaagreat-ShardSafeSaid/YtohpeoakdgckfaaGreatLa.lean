
/- lang.Right, lang.Of, mudlarkref06.Right, mudlarkref06.Of: their contracts in the new form. -/
import Derived.Test.YtohpeoakdgckfaaGreatTable06
import Derived.Deep.RegionWith
import Derived.Lib.LastIndexByte
import Derived.Test.YtohpeoakdgckfaaGreatSx
namespace Go.Proofs.YtohpeoakdgckfaaGreat
open Go.RowKit Go.Shelf

attribute [local go_sem] Oper.semAt_some

/-- The last point of l that is not its first byte, among the first k. -/
def refAt (l : List UInt8) : Nat → Int
  | 0 => -1
  | k + 1 => if 1 ≤ k ∧ l[k]? = some 46 then (k : Int) else refAt l k
def extOf (l : List UInt8) : Option (List UInt8) := if refAt l l.length < 1 then none else some (l.drop ((refAt l l.length).toNat + 1))
def lastPart (s : List UInt8) : List UInt8 := (splitL s).getLast (splitL_ne s)
def langOf (s : List UInt8) : List UInt8 := match extOf (lastPart s) with
  | none => []
  | some e => (look tbl e).getD []

theorem langOf_eq (s : List UInt8) : langOf s = if refAt (lastPart s) (lastPart s).length < 1 then [] else (look tbl ((lastPart s).drop ((refAt (lastPart s) (lastPart s).length).toNat + 1))).getD [] := by
  unfold langOf extOf
  by_cases h : refAt (lastPart s) (lastPart s).length < 1
  · simp [h]
  · simp [h]

theorem refAt_bd (l : List UInt8) (k : Nat) : refAt l k = -1 ∨ (1 ≤ refAt l k ∧ refAt l k < k) := by
  induction k with
  | zero => exact .inl rfl
  | succ k ih =>
    unfold refAt
    split
    · rename_i h; exact .inr ⟨by omega, by omega⟩
    · rcases ih with h | h
      · exact .inl h
      · exact .inr ⟨h.1, by omega⟩

theorem lastIdx_refAt (l : List UInt8) (k : Nat) (hk : k ≤ l.length) : (Lib.lastIdx (bs l) 46 k < 1 ∧ refAt l k = -1) ∨ (1 ≤ Lib.lastIdx (bs l) 46 k ∧ refAt l k = Lib.lastIdx (bs l) 46 k) := by
  induction k with
  | zero => exact .inl ⟨by simp [Lib.lastIdx], rfl⟩
  | succ k ih =>
    have hb : ((bs l).data[k]!) = l[k]'(by omega) := by
      simp [bs, show k < l.length by omega]
    unfold Lib.lastIdx refAt
    rw [hb]
    by_cases hc : l[k]'(by omega) = 46
    · rw [if_pos (by simp [hc])]
      by_cases h1 : 1 ≤ k
      · rw [if_pos ⟨h1, by rw [List.getElem?_eq_getElem (by omega), hc]⟩]
        exact .inr ⟨by omega, rfl⟩
      · obtain rfl : k = 0 := by omega
        rw [if_neg (by omega)]
        exact .inl ⟨by simp, rfl⟩
    · rw [if_neg (by intro e; exact hc (UInt8.toNat_inj.1 (by simpa using (by omega : (l[k]'(by omega)).toNat = 46)))), if_neg (by rw [List.getElem?_eq_getElem (by omega)]; simp [hc])]
      exact ih (by omega)

theorem extract_end (l : List UInt8) (a : Nat) : (bs l).extract a (bs l).size = bs (l.drop a) := by
  rw [extract_bs, bs_data, bs_size, List.take_of_length_le (by simp)]

set_option maxRecDepth 100000 in
set_option maxHeartbeats 1000000 in
theorem of_any (s : ByteArray) (w : World) (hs : s.size ≤ 1000000) :
    Calls Tryz.prog 79 #[.string s] w fun e w' => e = .returned (.string (bs (langOf s.data.toList))) ∧ Ext Nil w w' := by
  refine calls_opq fun R' HR' => ?_
  refine calls_of_wp_marks Tryz.func79 rfl ?_
  simp only [Tryz.ntmps79, List.size_toArray, List.length_cons, List.length_nil, Nat.reduceAdd, Nat.reduceSub, Array.replicate_succ, Array.replicate_zero, List.push_toArray, List.append_toArray, List.nil_append, List.cons_append]
  repeat' (first | (go_big_may; (go_at_call 135; refine (parts_any _ _).mono ?_; rintro e w' ⟨rfl, rfl⟩); (try dsimp only); try simp only [World.size_alloc]) | go_values | go_skip | go_guarded | go_step | go_upon | go_back | ((with_reducible refine upon_id ?_); go_simp))

  refine wp_range0 (gf := 193) (lb := #[.pointer (some ⟨w.heap.size + 1, 0, none⟩)]) rfl (enters_of Tryz.func193 (by kernel_rfl) rfl)
    (parts_iter s (by omega) (w.heap.size + 1) _ (by have := box_new (w.alloc (.cells #[.string ⟨#[]⟩] 9)) (.string s) 9; rwa [World.size_alloc] at this)) (fun _ => rfl)
    (fun k W => W.heap[w.heap.size]? = some (.cells #[.string (bs (((splitL s.data.toList).take k).getLast?.getD []))] 9 (0, 0)) ∧ Ext Nil w W)
    (fun c k W => False)
    (fun k A B h hx => ⟨hx.blk h.1 rfl (by simp), h.2.then_c hx (fun k hk e => absurd e (by omega)) (by simp [World.size_alloc]; try omega)⟩)
    (fun c k A B h hx => h)
    (by simp)
    ⟨blk_alloc (box_new _ _ _) _, ((Ext.refl _ _).alloc _).alloc _⟩ ?_ ?_ ?_
  · intro l k hk W hl hL hi
    repeat' (first | go_values | gi_guarded | gi_step | gi_upon | gi_in | gi_back | ((with_reducible refine uponIn_id ?_); go_simp))
    refine ⟨Ext.refl _ _, fun W₂ hx2 hsz hL2 R HR => ?_⟩
    obtain ⟨hb, hx⟩ := hi
    generalize hp : (splitL s.data.toList)[k] = p
    replace hb := hx2.blk hb rfl (fun c => c)
    have hc := box_cell hb
    have hf := box_free hb
    have HB := hid hb
    have HP := hid hp
    have hx2' : Ext Nil w W₂ := hx.then_c hx2 (fun _ _ c => c) (by simp [World.size_alloc]; try omega)
    clear hb hp hsz hL hx hl hL2 hx2
    repeat' (first | go_values | gi_guarded | gi_step | gi_upon | gi_in | gi_back | ((with_reducible refine uponIn_id ?_); go_simp))
    refine HR.out _ _ _ ⟨(Ext.refl _ _).setCell (.inl (by simp)) _, ?_, hx2'.setCell (.inr (Nat.le_refl _)) _⟩
    rw [List.take_succ_eq_append_getElem hk, HP.out]
    simpa using box_set HB.out _
  · intro D W hD hi hd
    obtain ⟨hb, hx⟩ := hi
    have hl : ((splitL s.data.toList).take (splitL s.data.toList).length).getLast?.getD [] = lastPart s.data.toList := by
      rw [List.take_length, List.getLast?_eq_some_getLast (splitL_ne _)]; rfl
    rw [hl] at hb
    have hlang := langOf_eq s.data.toList
    have hpl : (lastPart s.data.toList).length ≤ s.size := by
      have h := List.getLast_mem (splitL_ne s.data.toList)
      obtain ⟨k, hk, he⟩ := List.getElem_of_mem h
      have := splitL_len hk
      rw [he] at this
      unfold lastPart
      simpa using this
    revert hb hlang hpl
    generalize lastPart s.data.toList = p
    intro hb hlang hpl
    have hc := box_cell hb
    have HB := hid hb
    have HL := hid hlang
    have hsz := hx.size
    have hbs : (bs p).size = p.length := bs_size p
    have hw : w.heap.size < W.heap.size := blk_lt HB.out
    have hri : Lib.lastIndexByte (bs p) 46 = Lib.lastIdx (bs p) 46 p.length := by unfold Lib.lastIndexByte; rw [hbs]
    clear hb hlang hl
    have hfin := HL.out
    clear HL
    rcases lastIdx_refAt p p.length (Nat.le_refl _) with ⟨h1, h2⟩ | ⟨h1, h2⟩
    · rw [h2, if_pos (by omega)] at hfin
      have HF := hid hfin
      rw [← hri] at h1
      clear hfin hri hbs h2
      obtain ⟨i, hi⟩ : ∃ i, Lib.lastIndexByte (bs p) 46 = i := ⟨_, rfl⟩
      rw [hi] at h1
      have HI := hid hi
      clear hi
      repeat' (first | (go_big_may; (go_at_call 136; refine (Tryz.strings_LastIndexByte _ _ (by rw [bs_size]; omega) _).mono ?_; rw [HI.out]; rintro e w' ⟨rfl, rfl⟩); (try dsimp only); try simp only [World.size_alloc]) | go_values | go_skip | go_guarded | go_step | go_upon | go_back | ((with_reducible refine upon_id ?_); go_simp))
      exact leave1 rfl hd (results_tmp rfl _ _ _) (HR'.out _ _ ⟨by rw [HF.out]; rfl, hx.putObj_new (by simp [World.size_alloc] at hD; omega) _⟩)
    · rw [h2, if_neg (by omega)] at hfin
      obtain ⟨n, hn⟩ := Int.eq_ofNat_of_zero_le (show 0 ≤ Lib.lastIdx (bs p) 46 p.length by omega)
      rw [hn] at h1 hfin hri
      have hnl : n < p.length := by have := refAt_bd p p.length; rw [h2, hn] at this; omega
      have HF := hid hfin
      have HI := hid hri
      clear hfin hri h2 hn
      have hlk : ∀ W : World, (Instr.lookup 205 (.map (some W.heap.size)) (.string ((bs p).extract (n + 1) p.length)) false).run Tryz.prog (W.alloc (.map (E 22) 22)).drew = .ok (.string (bs ((look tbl (p.drop (n + 1))).getD []))) (W.alloc (.map (E 22) 22)).drew := fun W => by
        rw [← bs_size p, extract_end]
        exact run_lookup (P := Tryz.prog) Tryz.underlying205 Tryz.underlying9 Tryz.zeroValue9 (tbl.take 22) (p.drop (n + 1)) _ (World.alloc_heap_new W _)
      repeat' (first | (go_big_may; (go_at_call 136; refine (Tryz.strings_LastIndexByte _ _ (by rw [bs_size]; omega) _).mono ?_; rw [HI.out]; rintro e w' ⟨rfl, rfl⟩); (try dsimp only); try simp only [World.size_alloc]) | go_values | go_skip | go_guarded | go_step | go_upon | go_back | ((with_reducible refine upon_id ?_); go_simp))
      have hbz : n + 1 ≤ (bs p).size := by rw [bs_size]; omega
      have hbz1 : (n : Int) + 1 ≤ ((bs p).size : Int) := by rw [bs_size]; omega
      have hbz2 : ((bs p).size : Int) ≤ 1000000 := by rw [bs_size]; omega
      have hz0 : (0 : Int) ≤ (n : Int) + 1 := by omega
      have hz1 : IntKind.i64.wrap ((n : Int) + 1) = (n : Int) + 1 := IntWalk.i64_in _ (by rw [bs_size] at *; omega)
      have hz2 : ((n : Int) + 1).toNat = n + 1 := by omega
      go_region_with (go_at_call 137; refine (langs_any _).mono ?_; rintro e w1 ⟨rfl, rfl⟩)
      all_goals repeat' (first | go_values | go_skip | go_guarded | go_step | go_upon | go_in | go_back | ((with_reducible refine upon_id ?_); go_simp))
      all_goals exact leave1 rfl (blk_alloc hd _) (results_tmp rfl _ _ _) (HR'.out _ _ ⟨by rw [HF.out]; rfl, ((hx.alloc _).drew).putObj_new (by simp [World.size_alloc] at hD; omega) _⟩)
  · intro D c k W hD hk hi hd
    exact hi.elim

end Go.Proofs.YtohpeoakdgckfaaGreat

namespace Go.Proofs.YtohpeoakdgckfaaGreat
open Go.RowKit Sx

namespace Sx
/-- A call that turns nothing, told in the old form. -/
theorem tri_ext {P : Program} {r : Hp} {f : FuncId} {args : List Value} {v : Value} (h : ∀ w, Calls P f args.toArray w fun e w' => e = .returned v ∧ Ext Nil w w') :
    Tri P r f args [] fun u H => u = v ∧ H = [] := by
  rw [tri_iff]
  intro w g o al
  refine (h w).mono ?_
  rintro e w' ⟨rfl, hx⟩
  have hk : ∀ (b : Nat) (u : Obj), w.heap[b]? = some u → w'.heap[b]? = some u := fun b u e => by
    have hb : b < w.heap.size := (Array.getElem?_eq_some_iff.1 e).1
    rw [hx.keep b hb (fun c => c)]; exact e
  exact ⟨v, [], g, rfl, ⟨rfl, rfl⟩, al, ⟨⟨fun b u e => hk b u (o.emb b u e), fun b u e => hk b u (o.ro b u e), o.dj, o.marks.mono (fun D a b c => ⟨hk D _ a, b⟩), fun k e => (by cases e)⟩,
    hx.os, hx.tape, hx.output, hx.size, fun b hb _ => hx.keep b hb (fun c => c), fun b hb => .inl hb, fun d hd => .inl hd⟩⟩
end Sx

theorem lright_any (r : Hp) (s : ByteArray) (hs : s.size ≤ 1000000) : Tri Tryz.prog r 133 [.string s] [] fun u H => u = .bool (pathOk s.data.toList) ∧ H = [] := tri_ext fun w => right_any s w hs
theorem lof_any (r : Hp) (s : ByteArray) (hs : s.size ≤ 1000000) : Tri Tryz.prog r 79 [.string s] [] fun u H => u = .string (bs (langOf s.data.toList)) ∧ H = [] := tri_ext fun w => of_any s w hs
end Go.Proofs.YtohpeoakdgckfaaGreat
