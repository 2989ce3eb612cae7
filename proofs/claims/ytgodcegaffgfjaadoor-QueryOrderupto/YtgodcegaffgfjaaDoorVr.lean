
/- Texts and queries as arguments of bounded bulk, opened. -/
import Derived.Test.YtgodcegaffgfjaaDoorRows
import Derived.Test.YtgodcegaffgfjaaDoorUb
import Derived.Test.YtgodcegaffgfjaaDoorRo
namespace Go.Proofs.YtgodcegaffgfjaaDoor
open Go.RowKit Go.WideShapes Go.ChangeShapes Sx

section
variable {H : Type} {enc : TypeId × Value → H} {P : Program} {W : World}
theorem bulk_pos (d : DataW H) : 1 ≤ Rows.uptoBulk d := by
  cases d with
  | lit l => cases l <;> simp [Rows.uptoBulk]
  | nil => simp [Rows.uptoBulk]
  | ptr d => simp [Rows.uptoBulk]
  | slice elems spare => simp [Rows.uptoBulk]
  | agg parts => simp [Rows.uptoBulk]
  | iface t d => simp [Rows.uptoBulk]
  | map entries => simp [Rows.uptoBulk]
  | held h => simp [Rows.uptoBulk]
theorem bulk_mem {d : DataW H} {l : List (DataW H)} (h : d ∈ l) : Rows.uptoBulk d ≤ Rows.uptoBulkAll l := by
  induction l with
  | nil => cases h
  | cons x r ih =>
    simp only [Rows.uptoBulkAll]
    rcases List.mem_cons.1 h with rfl | h
    · omega
    · have := ih h; omega
/-- What each holds, summed. -/
def sumN {α : Type} (f : α → Nat) : List α → Nat
  | [] => 0
  | x :: l => f x + sumN f l
theorem bulk_range {α : Type} {f : α → Nat} {D : Nat → DataW H} {g : Nat → α} : ∀ (l : List Nat), (∀ i ∈ l, f (g i) ≤ Rows.uptoBulk (D i)) → sumN f (l.map g) ≤ Rows.uptoBulkAll (l.map D)
  | [], _ => Nat.le_refl _
  | i :: l, h => by
    have h1 := h i (by simp)
    have h2 := bulk_range l fun j hj => h j (by simp [hj])
    simp only [List.map_cons, sumN, Rows.uptoBulkAll]; omega
/-- A slice opened: its elements' cells, and how much they hold together. -/
theorem open_elsB {α : Type} [Inhabited α] {c' : α → List Value} {sz : Nat} {Q : α → Prop} {f : α → Nat} {t e : TypeId} {n : Nat} {cs : List Value} {x : DataW H × List MemPlace} (ht : P.underlying t = some (.slice e)) (hc : P.cellsOf e = sz) (hsz : 0 < sz) (henc : ∀ a, (c' a).length = sz)
    (hel : ∀ m cs y, DataW.trod enc P W 0 (fun _ => true) true m e cs = some y → Rows.uptoBulk y.1 < Rows.uptoBulk x.1 → ∃ a, cs = c' a ∧ Q a ∧ f a ≤ Rows.uptoBulk y.1) (h : DataW.trod enc P W 0 (fun _ => true) true n t cs = some x) :
    ∃ v, ∃ xs : List α, cs = [v] ∧ Els (hpOf W) sz c' v xs ∧ (∀ a ∈ xs, Q a) ∧ sumN f xs + 1 ≤ Rows.uptoBulk x.1 := by
  rcases Deep.open_slice ht h with ⟨rfl, rfl⟩ | ⟨a, len, cap, m, k, D, Pl, rfl, _, hl, hm, hme, rfl, hx⟩
  · exact ⟨_, [], rfl, ⟨henc, Sl.nil _ _⟩, (fun a ha => (by cases ha)), by simp [sumN, Rows.uptoBulk]⟩
  · simp only [if_true] at hme
    obtain rfl : cap = m := hme.symm
    have hbk : ∀ i, i < len → Rows.uptoBulk (D i) < Rows.uptoBulk (DataW.slice ((List.range len).map D) ((List.range (cap - len)).map fun j => D (len + j))) := fun i hi => by
      have := bulk_mem (List.mem_map_of_mem (f := D) (List.mem_range.2 hi))
      simp only [Rows.uptoBulk]; omega
    obtain ⟨g, hf⟩ := Deep.choose_lt (α := α) (n := len) (p := fun i u => W.cells? 0 (a.add (i * P.cellsOf e)) (P.cellsOf e) = some (c' u) ∧ Q u ∧ f u ≤ Rows.uptoBulk (D i)) (fun i hi => by
      obtain ⟨cs', h1, h2⟩ := hx i (by omega)
      obtain ⟨u, rfl, hq, hfu⟩ := hel _ _ _ h2 (hbk i hi)
      exact ⟨u, h1, hq, hfu⟩)
    rw [hc] at hf hx
    have hxl : ((List.range len).map g).length = len := by simp
    have hsum : sumN f ((List.range len).map g) + 1 ≤ Rows.uptoBulk (DataW.slice ((List.range len).map D) ((List.range (cap - len)).map fun j => D (len + j))) := by
      have := bulk_range (f := f) (D := D) (g := g) (List.range len) fun i hi => (hf i (List.mem_range.1 hi)).2.2
      simp only [Rows.uptoBulk]; omega
    refine ⟨_, (List.range len).map g, rfl, ⟨henc, ?_, ?_, ?_⟩, fun u hu => ?_, hsum⟩
    · rw [flat_len henc]
    · rw [hxl]; omega
    · rw [hxl]
      by_cases h0 : cap = 0
      · have hl0 : len = 0 := by omega
        subst h0; subst hl0
        exact .inl ⟨⟨_, rfl⟩, rfl⟩
      · obtain ⟨cs', h1, _⟩ := hx 0 (by omega)
        obtain ⟨_, h2, h3⟩ := World.cells?_some h1
        have h4 := h3 0 hsz
        rw [List.getElem?_eq_getElem (by omega)] at h4
        obtain ⟨b, off, spot⟩ := a
        have hsp : spot = none := by simpa [Addr.add] using World.cell?_spot h4
        subst hsp
        rw [Addr.add_lit, Addr.add_lit] at h4
        obtain ⟨cc, E, fz, hb⟩ : ∃ cc E fz, W.heap[b]? = some (.cells cc E fz) := by
          unfold World.cell? at h4
          split at h4
          · rename_i cc E fz hb; exact ⟨cc, E, fz, hb⟩
          · cases h4
        refine .inr ⟨b, off, cap, cc, E, fz, rfl, hl, hb, fun j hj => ?_⟩
        rw [flat_len henc, hxl] at hj
        have hi : j / sz < len := by rw [Nat.div_lt_iff_lt_mul hsz]; exact hj
        obtain ⟨g1, _⟩ := hf (j / sz) hi
        obtain ⟨_, _, g3⟩ := World.cells?_some g1
        have g4 := g3 (j % sz) (Nat.mod_lt _ hsz)
        rw [Addr.add_lit, Addr.add_lit] at g4
        have hj2 : off + j / sz * sz + j % sz = off + j := by rw [Nat.add_assoc, Nat.div_add_mod']
        rw [hj2] at g4
        unfold World.cell? at g4
        rw [hb] at g4
        simp only [Option.isSome_none, Bool.false_eq_true, if_false] at g4
        rw [g4]
        have e1 := flat_at henc ((List.range len).map g) (j / sz) (by rw [hxl]; exact hi)
        have e2 : (((List.range len).map g).flatMap c')[j]? = (c' (g (j / sz)))[j % sz]? := by
          have e3 : ((List.range len).map g)[j / sz]'(by rw [hxl]; exact hi) = g (j / sz) := by simp
          rw [e3] at e1
          rw [← e1, List.getElem?_take_of_lt (Nat.mod_lt _ hsz), List.getElem?_drop, Nat.div_add_mod']
        rw [← e2]
        exact List.getElem?_eq_getElem _
    · obtain ⟨i, hi, rfl⟩ := List.mem_map.1 hu
      exact (hf i (List.mem_range.1 hi)).2.1
theorem open_strB {t : TypeId} {n : Nat} {cs : List Value} {x : DataW H × List MemPlace} {w : World} {b : Nat} {sp : Nat → Bool} {hd : Bool} (ht : P.underlying t = some .string) (h : DataW.trod enc P w b sp hd n t cs = some x) : ∃ l : List UInt8, cs = [.string (bs l)] ∧ l.length + 1 ≤ Rows.uptoBulk x.1 := by
  obtain ⟨s, rfl, rfl, _⟩ := DataW.trod_string ht h
  exact ⟨s.data.toList, rfl, by simp [Rows.uptoBulk]⟩
/-- A struct opened. -/
theorem open_structB {t : TypeId} {fs : Array Field} {pl : List (TypeId × Nat × Nat)} {n c : Nat} {cs : List Value} {x : DataW H × List MemPlace} {w : World} {b : Nat} {sp : Nat → Bool} {hd : Bool} (ht : P.underlying t = some (.struct fs)) (hc : P.cellsOf t = c)
    (hpl : fs.toList.map (fun f => (f.type, f.offset, P.cellsOf f.type)) = pl) (h : DataW.trod enc P w b sp hd n t cs = some x) :
    ∃ m, ∃ ys : List (DataW H × List MemPlace), cs.length = c ∧ ys.length = pl.length ∧ Rows.uptoBulk x.1 = Rows.uptoBulkAll (ys.map (·.1)) + 1 ∧ ∀ (i : Nat) (T : TypeId) (o s : Nat), pl[i]? = some (T, o, s) → DataW.trod enc P w b sp hd m T ((cs.drop o).take s) = ys[i]? := by
  obtain ⟨xs, m, _, rfl, hl, hlen, hf⟩ := DataW.trod_struct ht h
  refine ⟨m, xs, hl.trans hc, by rw [← hpl]; simp [hlen], by simp only [Rows.uptoBulk], fun i T o s hi => ?_⟩
  subst hpl
  rw [List.getElem?_map] at hi
  have hlt : i < fs.size := by
    rcases Nat.lt_or_ge i fs.size with h | h
    · exact h
    · rw [List.getElem?_eq_none (by simpa using h)] at hi; cases hi
  rw [List.getElem?_eq_getElem (by simpa using hlt)] at hi
  simp only [Option.map_some, Option.some.injEq, Prod.mk.injEq, Array.getElem_toList] at hi
  obtain ⟨rfl, rfl, rfl⟩ := hi
  exact hf i _ (by simp [hlt])
end
theorem sumN_T : ∀ l : List Tx, sumN (fun s : Tx => s.length + 1) l = sizeT l
  | [] => rfl
  | s :: l => by simp only [sumN, sizeT, sumN_T l]
theorem sumN_Q : ∀ l : List QuV, sumN (fun q : QuV => sizeQ q.key) l = sizeQs (l.map QuV.key)
  | [] => rfl
  | q :: l => by simp only [sumN, List.map_cons, sizeQs, sumN_Q l]
theorem op_textsB {H : Type} {enc : TypeId × Value → H} {W : World} {n : Nat} {cs : List Value} {x : DataW H × List MemPlace} (h : DataW.trod enc Tryd.prog W 0 (fun _ => true) true n 23 cs = some x) :
    ∃ v, ∃ l : List Tx, cs = [v] ∧ Els (hpOf W) 1 encTx v l ∧ sizeT l + 1 ≤ Rows.uptoBulk x.1 := by
  obtain ⟨v, l, rfl, hv, _, hl⟩ := open_elsB (c' := encTx) (sz := 1) (Q := fun _ => True) (f := fun s : Tx => s.length + 1) Tryd.underlying23 (by kernel_rfl) (by omega) (fun _ => rfl) (fun m cs y hy _ => by
    obtain ⟨s, rfl, hs⟩ := open_strB Tryd.underlying9 hy
    exact ⟨s, rfl, trivial, hs⟩) h
  rw [sumN_T] at hl
  exact ⟨v, l, rfl, hv, hl⟩
theorem op_queryB {H : Type} {enc : TypeId × Value → H} {W : World} : ∀ (N : Nat) {n : Nat} {cs : List Value} {x : DataW H × List MemPlace}, DataW.trod enc Tryd.prog W 0 (fun _ => true) true n 30 cs = some x → Rows.uptoBulk x.1 ≤ N → ∃ q : QuV, cs = encQ q ∧ QuR (hpOf W) q ∧ sizeQ q.key ≤ Rows.uptoBulk x.1
  | 0, _, _, x, _, hb => absurd (bulk_pos x.1) (by omega)
  | N + 1, n, cs, x, h, hb => by
    obtain ⟨m, ys, hlen, hyl, hbk, hf⟩ := open_structB (pl := [(28, 0, 1), (23, 1, 1), (22, 2, 1)]) (c := 3) Tryd.underlying30 (by kernel_rfl) (by kernel_rfl) h
    match cs, hlen, ys, hyl with
    | [c0, c1, c2], _, [y0, y1, y2], _ =>
      have h0 := hf 0 _ _ _ rfl
      have h1 := hf 1 _ _ _ rfl
      have h2 := hf 2 _ _ _ rfl
      simp only [List.drop_zero, List.drop_succ_cons, List.take_succ_cons, List.take_zero, List.getElem?_cons_zero, List.getElem?_cons_succ] at h0 h1 h2
      simp only [List.map_cons, List.map_nil, Rows.uptoBulkAll] at hbk
      have hp0 := bulk_pos y0.1
      obtain ⟨i, e0, hi⟩ := open_num Tryd.underlying28 h0
      obtain ⟨gv, gs, e1, hg, hgs⟩ := op_textsB h1
      obtain ⟨sv, ss, e2, hs, hq, hss⟩ := open_elsB (c' := encQ) (sz := 3) (Q := fun q => QuR (hpOf W) q) (f := fun q : QuV => sizeQ q.key) Tryd.underlying22 (by kernel_rfl) (by omega) (fun _ => rfl) (fun m' cs' y' hy' hlt => by
        obtain ⟨q, e, h3, h4⟩ := op_queryB N hy' (by omega)
        exact ⟨q, e, h3, h4⟩) h2
      injection e0 with e0; injection e1 with e1; injection e2 with e2
      subst e0 e1 e2
      rw [sumN_Q] at hss
      refine ⟨.mk i _ gs _ ss, rfl, quR_iff.2 (wf_i64 hi) ⟨hg, hs, hq⟩, ?_⟩
      rw [key_mk]
      simp only [sizeQ]; omega
end Go.Proofs.YtgodcegaffgfjaaDoor
