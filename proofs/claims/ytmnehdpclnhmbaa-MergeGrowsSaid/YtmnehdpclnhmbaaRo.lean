
/- Ro: from a contract ('Tri', with what lay there as what is read alone) to a row that says 'true, and all reads as it did': the arguments opened, the last step. No program is named. Rpb: bytes, strings as arguments of this seat's laws. -/
import Derived.Test.YtmnehdpclnhmbaaPu
import Derived.ProofKit
import Derived.OpenShut
import Derived.ShutString
import Derived.ChangeSame
import Derived.Carry
import Derived.SizedLaws
import Derived.Deep.Slices
import Derived.Test.YtmnehdpclnhmbaaWd
namespace Go.Proofs.Ytmnehdpclnhmbaa
open Go.RowKit Go.WideShapes Go.ChangeShapes
namespace Sx
def hpOf (w : World) : Hp := fun b => w.heap[b]?
theorem Tri.below {P : Program} {f : FuncId} {args : List Value} {R : Rt} {W : World} (h : Tri P (hpOf W) f args [] R) : Calls P f args.toArray W fun e W' => ∃ v H, e = .returned v ∧ R v H ∧ Below W.heap.size W W' := by
  have ok : Ok none (hpOf W) [] W emp := ⟨fun b o c => (by cases c), fun b o c => c, fun b => Or.inr rfl, trivial, fun k hk => (by cases hk)⟩
  refine (tri_iff.1 h W emp ok rfl).mono ?_
  rintro e w' ⟨v, H', h', rfl, hR, _, to⟩
  exact ⟨v, H', rfl, hR, to.os, to.tape, to.output, to.size, fun k hk => to.keep k hk rfl⟩
section
variable {H : Type} {enc : TypeId × Value → H} {P : Program}
theorem trodAll_stays (hl : laidOutB P = true) {W W' : World} {sp : Nat → Bool} : ∀ {ts : List TypeId} {vs : List Value} {ds : List (DataW H)} {ps : List MemPlace},
    (ts.all fun t => P.readableRec t && decide (t < P.types.size)) = true → DataW.TrodAll enc P W 0 (fun _ => true) true ts vs ds ps → (∀ p ∈ ps, W.sameAt W' p) → (∀ p ∈ ps, sp p.block = true) →
    DataW.TrodAll enc P W' 0 sp true ts vs ds ps
  | [], [], [], _, _, h, _, _ => h
  | t :: ts, v :: vs, d :: ds, ps, ht, h, h1, h2 => by
    obtain ⟨p, q, ha, hb, rfl⟩ := h
    simp only [List.all_cons, Bool.and_eq_true, decide_eq_true_eq] at ht
    exact ⟨p, q, WideElems.Trod_stays hl ht.1.1 ht.1.2 ha (fun x hx => h1 x (List.mem_append_left _ hx)) (fun x hx => h2 x (List.mem_append_left _ hx)),
      trodAll_stays hl ht.2 hb (fun x hx => h1 x (List.mem_append_right _ hx)) (fun x hx => h2 x (List.mem_append_right _ hx)), rfl⟩
theorem trodAll_len {w : World} {base : Nat} {sp : Nat → Bool} {hd : Bool} : ∀ {ts : List TypeId} {vs : List Value} {ds : List (DataW H)} {ps : List MemPlace}, DataW.TrodAll enc P w base sp hd ts vs ds ps → ds.length = ts.length
  | [], [], [], _, _ => rfl
  | _ :: ts, _ :: vs, _ :: ds, _, h => by
    obtain ⟨p, q, _, hb, _⟩ := h
    simp [trodAll_len hb]
/-- What a row asks of its function: true, and all reads as it did. -/
theorem post_true {fn : Func} {s : ChangeSpec} {W W' : World} {args : Array Value} {ds gs : List (DataW H)} {before : List MemPlace} {tb : TypeId} {fresh handsOn : Bool}
    (hl : laidOutB P = true) (hv : s.vars = []) (hp : (fn.params.toList.all fun t => P.readableRec t && decide (t < P.types.size)) = true)
    (hs : ∀ l : List (DataW H), l.length = fn.params.size → s.fn H l = { results := [.lit (.bool true)], args := l }) (hr : fn.resultTypes = #[tb]) (htb : P.underlying tb = some .bool)
    (hW : DataW.Whole enc P fn.params.toList s.vars false W args.toList ds gs before) (hb : Below W.heap.size W W') : s.post enc P fn false fresh handsOn false W args (.bool true) W' := by
  have hW' := hW
  obtain ⟨p, q, hA, hV, rfl, hz, hn⟩ := hW
  rw [hv] at hV
  obtain ⟨rfl, rfl⟩ := trodVars_none hV
  have hlt : ∀ x ∈ p ++ [], x.block < W.heap.size := fun x hx => hW'.lt x hx
  have hlen : ds.length = fn.params.size := by rw [trodAll_len hA]; simp
  have hs' := hs (ds ++ []) (by simpa using hlen)
  refine ⟨ds, [], p ++ [], [], p, [], hW', ?_, ?_, ?_, World.keptBut_mono (fun x hx => ⟨hx, ?_⟩) (hb.frame (· ∈ p ++ [])), fun c => by cases c⟩
  · rw [hs', hr]
    exact trodAll_cons_mk (shut_bool htb _) trodAll_mk0
  · rw [hs', List.append_nil]
    exact trodAll_stays hl hp hA (fun x hx => hb.same (hlt x (by simpa using hx))) (fun x hx => by simpa using hlt x (by simpa using hx))
  · rw [hs', hv]
    rfl
  · rw [List.append_nil] at hx
    exact .inr (.inl hx)
variable {W : World}
def Wt (P : Program) (t : TypeId) (d : DataW H) : Prop := ∀ k ∈ d.weights P t, k ≤ reachBytes
theorem wt_all {e : TypeId} : ∀ {l : List (DataW H)} {d : DataW H}, d ∈ l → ∀ n ∈ d.weights P e, n ∈ DataW.weightsAll P e l
  | x :: l, d, hd, n, hn => by
    simp only [DataW.weightsAll]
    rcases List.mem_cons.1 hd with rfl | hd
    · exact List.mem_append_left _ hn
    · exact List.mem_append_right _ (wt_all hd n hn)
theorem wt_each {ts : List TypeId} {ds : List (DataW H)} (h : (DataW.weightsEach P ts ds).all (· ≤ reachBytes) = true) {j : Nat} {t : TypeId} {d : DataW H} (ht : ts[j]? = some t) (hd : ds[j]? = some d) : Wt P t d := fun k hk => by
  have := List.all_eq_true.1 h _ (DataW.weights_mem_each ht hd k hk)
  simpa using this
/-- A slice opened: its elements' cells as 'enc'' says. -/
theorem open_els {α : Type} [Inhabited α] {c' : α → List Value} {sz : Nat} {Q : α → Prop} {t e : TypeId} {n : Nat} {cs : List Value} {x : DataW H × List MemPlace} (ht : P.underlying t = some (.slice e)) (hc : P.cellsOf e = sz) (hsz : 0 < sz) (henc : ∀ a, (c' a).length = sz)
    (hel : ∀ m cs y, DataW.trod enc P W 0 (fun _ => true) true m e cs = some y → Wt P e y.1 → ∃ a, cs = c' a ∧ Q a) (h : DataW.trod enc P W 0 (fun _ => true) true n t cs = some x) (hw : Wt P t x.1) :
    ∃ v, ∃ xs : List α, cs = [v] ∧ Els (hpOf W) sz c' v xs ∧ (∀ a ∈ xs, Q a) ∧ xs.length * P.bytesOf e ≤ reachBytes := by
  rcases Deep.open_slice ht h with ⟨rfl, rfl⟩ | ⟨a, len, cap, m, k, D, Pl, rfl, _, hl, hm, hme, rfl, hx⟩
  · exact ⟨_, [], rfl, ⟨henc, Sl.nil _ _⟩, (fun a ha => (by cases ha)), by simp⟩
  · simp only [if_true] at hme
    obtain rfl : cap = m := hme.symm
    have hwt : ∀ i, i < len → Wt P e (D i) := fun i hi k hk => hw k (by
      simp only [DataW.weights, ht, List.mem_cons, List.mem_append]
      exact .inr (.inl (wt_all (List.mem_map.2 ⟨i, List.mem_range.2 hi, rfl⟩) k hk)))
    obtain ⟨f, hf⟩ := Deep.choose_lt (α := α) (n := len) (p := fun i u => W.cells? 0 (a.add (i * P.cellsOf e)) (P.cellsOf e) = some (c' u) ∧ Q u) (fun i hi => by
      obtain ⟨cs', h1, h2⟩ := hx i (by omega)
      obtain ⟨u, rfl, hq⟩ := hel _ _ _ h2 (hwt i hi)
      exact ⟨u, h1, hq⟩)
    rw [hc] at hf hx
    have hbulk : len * P.bytesOf e ≤ reachBytes := by
      have := hw ((((List.range len).map D).length + ((List.range (cap - len)).map fun j => D (len + j)).length) * P.bytesOf e) (by simp [DataW.weights, ht])
      simp only [List.length_map, List.length_range] at this
      exact Nat.le_trans (Nat.mul_le_mul_right _ (by omega)) this
    have hxl : ((List.range len).map f).length = len := by simp
    refine ⟨_, (List.range len).map f, rfl, ⟨henc, ?_, ?_, ?_⟩, fun u hu => ?_, by rw [hxl]; exact hbulk⟩
    · rw [flat_len henc]
    · rw [hxl]; omega
    · rw [hxl]
      by_cases h0 : cap = 0
      · have hl0 : len = 0 := by omega
        subst h0; subst hl0
        exact .inl ⟨⟨_, rfl⟩, rfl⟩
      · obtain ⟨cs', h1, _⟩ := hx 0 (by omega)
        obtain ⟨_, h2, h3⟩ := World.cells?_some h1
        have h4 := h3 0 hsz
        rw [List.getElem?_eq_getElem (by omega)] at h4
        obtain ⟨b, off, spot⟩ := a
        have hsp : spot = none := by simpa [Addr.add] using World.cell?_spot h4
        subst hsp
        rw [Addr.add_lit, Addr.add_lit] at h4
        obtain ⟨cc, E, fz, hb⟩ : ∃ cc E fz, W.heap[b]? = some (.cells cc E fz) := by
          unfold World.cell? at h4
          split at h4
          · rename_i cc E fz hb; exact ⟨cc, E, fz, hb⟩
          · cases h4
        refine .inr ⟨b, off, cap, cc, E, fz, rfl, hl, hb, fun j hj => ?_⟩
        rw [flat_len henc, hxl] at hj
        have hi : j / sz < len := by rw [Nat.div_lt_iff_lt_mul hsz]; exact hj
        obtain ⟨g1, _⟩ := hf (j / sz) hi
        obtain ⟨_, _, g3⟩ := World.cells?_some g1
        have g4 := g3 (j % sz) (Nat.mod_lt _ hsz)
        rw [Addr.add_lit, Addr.add_lit] at g4
        have hj2 : off + j / sz * sz + j % sz = off + j := by rw [Nat.add_assoc, Nat.div_add_mod']
        rw [hj2] at g4
        unfold World.cell? at g4
        rw [hb] at g4
        simp only [Option.isSome_none, Bool.false_eq_true, if_false] at g4
        rw [g4]
        have e1 := flat_at henc ((List.range len).map f) (j / sz) (by rw [hxl]; exact hi)
        have e2 : (((List.range len).map f).flatMap c')[j]? = (c' (f (j / sz)))[j % sz]? := by
          have e3 : ((List.range len).map f)[j / sz]'(by rw [hxl]; exact hi) = f (j / sz) := by simp
          rw [e3] at e1
          rw [← e1, List.getElem?_take_of_lt (Nat.mod_lt _ hsz), List.getElem?_drop, Nat.div_add_mod']
        rw [← e2]
        exact List.getElem?_eq_getElem _
    · obtain ⟨i, hi, rfl⟩ := List.mem_map.1 hu
      exact (hf i (List.mem_range.1 hi)).2
theorem open_str {t : TypeId} {n : Nat} {cs : List Value} {x : DataW H × List MemPlace} {w : World} {b : Nat} {sp : Nat → Bool} {hd : Bool} (ht : P.underlying t = some .string) (h : DataW.trod enc P w b sp hd n t cs = some x) (hw : Wt P t x.1) : ∃ l : List UInt8, cs = [.string (bs l)] ∧ l.length ≤ reachBytes := by
  obtain ⟨s, rfl, rfl, _⟩ := DataW.trod_string ht h
  exact ⟨s.data.toList, rfl, hw _ (by simp [DataW.weights])⟩
theorem open_num {t : TypeId} {k : IntKind} {n : Nat} {cs : List Value} {x : DataW H × List MemPlace} {w : World} {b : Nat} {sp : Nat → Bool} {hd : Bool} (ht : P.underlying t = some (.int k)) (h : DataW.trod enc P w b sp hd n t cs = some x) : ∃ i : Int, cs = [.int k i] ∧ (Lit.int k i).wf = true := by
  obtain ⟨i, rfl, _, hi⟩ := DataW.trod_int ht h
  exact ⟨i, rfl, hi⟩
theorem wf_u8 {i : Int} (h : (Lit.int .u8 i).wf = true) : ∃ b : UInt8, i = (b.toNat : Nat) := by
  refine ⟨UInt8.ofNat i.toNat, ?_⟩
  simp [Lit.wf, IntKind.bits, IntKind.signed, IntKind.min, IntKind.max] at h
  simp
  omega
theorem flat_u8 : ∀ xs : List UInt8, xs.flatMap (fun b : UInt8 => [Value.int .u8 b.toNat]) = u8s xs
  | [] => rfl
  | a :: l => by rw [List.flatMap_cons, flat_u8 l]; rfl
theorem open_bytes {t e : TypeId} {n : Nat} {cs : List Value} {x : DataW H × List MemPlace} (ht : P.underlying t = some (.slice e)) (he : P.underlying e = some (.int .u8)) (hc : P.cellsOf e = 1) (hby : P.bytesOf e = 1) (h : DataW.trod enc P W 0 (fun _ => true) true n t cs = some x) (hw : Wt P t x.1) :
    ∃ v, ∃ l : List UInt8, cs = [v] ∧ Sl (hpOf W) 1 v l.length (u8s l) ∧ l.length ≤ reachBytes := by
  obtain ⟨v, xs, rfl, hv, _, hl⟩ := open_els (c' := fun b : UInt8 => [.int .u8 b.toNat]) (Q := fun _ => True) ht hc (by omega) (fun _ => rfl) (fun m cs y hy _ => by
    obtain ⟨i, rfl, hi⟩ := open_num he hy
    obtain ⟨b, rfl⟩ := wf_u8 hi
    exact ⟨b, rfl, trivial⟩) h hw
  have hv2 := hv.2
  rw [flat_u8] at hv2
  exact ⟨v, xs, rfl, hv2, by rw [hby, Nat.mul_one] at hl; exact hl⟩
/-- A struct opened: each field's cells, and how much it weighs; 'pl': the fields' types, where they lie, how many cells they have. -/
theorem open_struct {t : TypeId} {fs : Array Field} {pl : List (TypeId × Nat × Nat)} {n c : Nat} {cs : List Value} {x : DataW H × List MemPlace} {w : World} {b : Nat} {sp : Nat → Bool} {hd : Bool} (ht : P.underlying t = some (.struct fs)) (hc : P.cellsOf t = c)
    (hpl : fs.toList.map (fun f => (f.type, f.offset, P.cellsOf f.type)) = pl) (h : DataW.trod enc P w b sp hd n t cs = some x) (hw : Wt P t x.1) :
    ∃ m, cs.length = c ∧ ∀ (i : Nat) (T : TypeId) (o s : Nat), pl[i]? = some (T, o, s) → ∃ y, DataW.trod enc P w b sp hd m T ((cs.drop o).take s) = some y ∧ Wt P T y.1 := by
  obtain ⟨xs, m, _, rfl, hl, hlen, hf⟩ := DataW.trod_struct ht h
  refine ⟨m, hl.trans hc, fun i T o s hi => ?_⟩
  subst hpl
  rw [List.getElem?_map] at hi
  have hlt : i < fs.size := by
    rcases Nat.lt_or_ge i fs.size with h | h
    · exact h
    · rw [List.getElem?_eq_none (by simpa using h)] at hi; cases hi
  rw [List.getElem?_eq_getElem (by simpa using hlt)] at hi
  simp only [Option.map_some, Option.some.injEq, Prod.mk.injEq, Array.getElem_toList] at hi
  obtain ⟨rfl, rfl, rfl⟩ := hi
  have hfi : fs[i]? = some fs[i] := by simp [hlt]
  refine ⟨xs[i], ?_, fun k hk => hw k ?_⟩
  · rw [hf i _ hfi]; exact List.getElem?_eq_getElem _
  · simp only [DataW.weights, ht]
    refine DataW.weights_mem_each (j := i) (t := fs[i].type) (d := xs[i].1) ?_ ?_ k hk
    · simp [hlt]
    · simp [List.getElem?_eq_getElem (show i < xs.length by omega)]
end
end Sx
end Go.Proofs.Ytmnehdpclnhmbaa

namespace Go.Proofs.Ytmnehdpclnhmbaa
open Go.RowKit Sx

theorem reach_eq : reachBytes = 140737488351232 := rfl
theorem op_bytes {H : Type} {enc : TypeId × Value → H} {W : World} {n : Nat} {cs : List Value} {x : DataW H × List MemPlace} (h : DataW.trod enc Try.prog W 0 (fun _ => true) true n 40 cs = some x) (hw : Wt Try.prog 40 x.1) :
    ∃ v, ∃ l : List UInt8, cs = [v] ∧ U8S (hpOf W) v l ∧ l.length ≤ 140737488351232 :=
  open_bytes Try.underlying40 Try.underlying5 (by kernel_rfl) (by kernel_rfl) h hw
theorem op_str {H : Type} {enc : TypeId × Value → H} {n : Nat} {cs : List Value} {x : DataW H × List MemPlace} {w : World} {b : Nat} {sp : Nat → Bool} {hd : Bool} (h : DataW.trod enc Try.prog w b sp hd n 9 cs = some x) (hw : Wt Try.prog 9 x.1) :
    ∃ l : List UInt8, cs = [.string (bs l)] ∧ l.length ≤ 140737488351232 := open_str Try.underlying9 h hw
end Go.Proofs.Ytmnehdpclnhmbaa
