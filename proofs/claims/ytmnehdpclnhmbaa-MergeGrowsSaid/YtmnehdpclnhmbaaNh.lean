
/- slices.SortFunc over files, as a contract over pieces. -/
import Derived.Test.YtmnehdpclnhmbaaNg
namespace Go.Proofs.Ytmnehdpclnhmbaa
open Go.RowKit Go.Sort Sx

def encG (x : FileV) : List Value := [.string (bs x.path), if x.val.oneCell' then x.val else .slice none 0 0]
theorem encG_eq {x : FileV} (h : x.val.oneCell' = true) : encG x = encF x := by unfold encG; rw [if_pos h]; rfl
theorem encG_one (x : FileV) : (if x.val.oneCell' then x.val else .slice none 0 0).oneCell' = true := by split <;> first | assumption | rfl
theorem flat_get2 {α : Type} (enc : α → List Value) (h : ∀ x, (enc x).length = 2) : ∀ (l : List α) (t : Nat), (l.flatMap enc)[t]? = l[t / 2]?.bind fun x => (enc x)[t % 2]?
  | [], t => by simp
  | x :: l, t => by
    rw [List.flatMap_cons, List.getElem?_append, h]
    by_cases c : t < 2
    · rw [if_pos c, show t / 2 = 0 by omega, show t % 2 = t by omega]; rfl
    · rw [if_neg c, flat_get2 enc h l (t - 2), show t / 2 = (t - 2) / 2 + 1 by omega, show t % 2 = (t - 2) % 2 by omega]; rfl
theorem flatK2 (l : List FileV) : (flatK encG 2 l.toArray).toList = l.flatMap encG := by
  apply List.ext_getElem?
  intro t
  rw [flat_get2 encG (fun _ => rfl), Array.getElem?_toList]
  by_cases c : t < l.length * 2
  · have h1 : t < (flatK encG 2 l.toArray).size := by simpa using c
    have h2 := get_flatK encG 2 l.toArray t (by simpa using c)
    have h3 : t / 2 < l.length := by omega
    rw [getElem!_pos _ t h1, getElem!_pos l.toArray (t / 2) (by simpa using h3)] at h2
    rw [Array.getElem?_eq_getElem h1, h2, List.getElem?_eq_getElem h3, Option.bind_some]
    have h4 : t % 2 < (encG l[t / 2]).length := by show t % 2 < 2; omega
    rw [List.getElem?_eq_getElem h4, List.getElem_toArray, getElem!_pos (encG l[t / 2]) (t % 2) h4]
  · rw [Array.getElem?_eq_none (by simp; omega), List.getElem?_eq_none (by omega)]; rfl
theorem holds_of_blockV {w : World} {g : Nat} {cur : Array Value} {e : TypeId} {vs : Array Value} (hb : w.heap[g]? = some (.cells cur e (0, 0))) (ht : cur.toList.take vs.size = vs.toList) : Holds id w g 0 vs := by
  intro j hj
  refine ⟨?_, by simp [World.frozen?, hb]⟩
  have h1 : (cur.toList.take vs.size)[j]? = vs.toList[j]? := by rw [ht]
  rw [List.getElem?_take_of_lt hj] at h1
  simp only [World.cell?, hb, Nat.zero_add]
  simp only [Option.isSome_none, Bool.false_eq_true, if_false]
  rw [← Array.getElem?_toList, h1]
  simp [hj]
theorem take_putCellsV (cur vs : Array Value) (h : vs.size ≤ cur.size) : (putCells id 0 vs cur).toList.take vs.size = vs.toList := by
  apply List.ext_getElem?
  intro j
  by_cases hj : j < vs.size
  · rw [List.getElem?_take_of_lt hj, Array.getElem?_toList]
    simp [putCells, hj, show j < cur.size by omega]
  · rw [List.getElem?_take_eq_none (by omega), List.getElem?_eq_none (by simp; omega)]
theorem ltF (x y : FileV) : ltOf (fun x y : FileV => cmpP x.path y.path) x y = decide (x.path < y.path) := by
  show decide _ = _
  rw [decide_eq_decide]
  exact cmpP_neg
theorem swoF : SWO (ltOf fun x y : FileV => cmpP x.path y.path) where
  irrefl x := by rw [ltF]; simp
  trans x y z h1 h2 := by
    rw [ltF, decide_eq_true_eq] at *
    exact List.lt_trans h1 h2
  ntrans x y z h1 h2 := by
    rw [ltF, decide_eq_false_iff_not] at *
    exact List.not_lt.2 (List.le_trans (List.not_lt.1 h2) (List.not_lt.1 h1))
set_option maxHeartbeats 1000000 in
theorem sortF_tri (r : Hp) (a : Option Addr) (c : Nat) (fs : List FileV) (hv : ∀ x ∈ fs, x.val.oneCell' = true) (hn : (fs.map (·.path)).Nodup) (hl : fs.length ≤ 10000000) :
    Tri Try.prog r 23 [.slice a fs.length c, .func (.func 24) #[] #[]] [RowC 42 2 (.slice a fs.length c) fs.length (fs.flatMap encF)] fun _ H => ∃ gs : List FileV, gs.Perm fs ∧ gs.Pairwise (fun x y => x.path < y.path) ∧ H = [RowC 42 2 (.slice a fs.length c) fs.length (gs.flatMap encF)] := by
  by_cases h0 : fs = []
  · subst h0
    refine tri_iff.2 fun w g ok al => ?_
    refine (AnyF.slices_SortFunc_none Try.fSort a c _ w).mono fun e w' h => ?_
    obtain ⟨he, hw⟩ := h
    subst hw
    exact ⟨_, _, g, he, ⟨[], List.Perm.refl _, List.Pairwise.nil, rfl⟩, al, To.refl ok⟩
  have hpos : 0 < fs.length := List.length_pos_iff.2 h0
  have hG : ∀ l : List FileV, (∀ x ∈ l, x.val.oneCell' = true) → l.flatMap encG = l.flatMap encF := fun l h => by
    induction l with
    | nil => rfl
    | cons x l ih => rw [List.flatMap_cons, List.flatMap_cons, encG_eq (h x List.mem_cons_self), ih fun y hy => h y (List.mem_cons_of_mem _ hy)]
  have hlenG : ∀ l : List FileV, (l.flatMap encF).length = l.length * 2 := fun l => by
    induction l with
    | nil => rfl
    | cons x l ih => rw [List.flatMap_cons, List.length_append, ih, List.length_cons]; show 2 + _ = _; omega
  refine tri_rowJ hpos fun b cur ha h1 h2 h3 h4 => ?_
  subst ha
  have eg : ∀ args w, (callFunc 24 args).run Try.prog w = .ok (.enter 24 args) w := enters_of Try.func24 (by kernel_rfl) rfl
  refine tri_cv (tri_inplace (R := fun _ cur' => ∃ gs : List FileV, gs.Perm fs ∧ gs.Pairwise (fun x y => x.path < y.path) ∧ cur'.size = c * 2 ∧ cur'.toList.take (fs.length * 2) = gs.flatMap encF) fun w ro hb => ?_) fun v H ⟨cur', hH, gs, hp, hq, hs, ht⟩ => ?_
  · have hbs : b < w.heap.size := (Array.getElem?_eq_some_iff.1 hb).1
    have hH : HoldsK encG 2 w b 0 fs.toArray := holds_of_blockV hb (by rw [flatK2, hG _ hv, size_flatK]; exact h4)
    have hcmp : CmpLays Try.prog 24 #[] encG 2 (fun x y : FileV => cmpP x.path y.path) b 0 fs.toArray.size w := fun m os dk _ x y => by
      rw [Array.append_empty]
      exact live1_w _ _ _ _ (encG_one x) (encG_one y) _
    refine (AnyQ.slices_SortFunc Try.fSort 2 Try.isAgg42 Try.sizeOf42 encG (fun _ => rfl) (fun x v hv => by
      simp only [encG, List.mem_cons, List.not_mem_nil, or_false] at hv
      rcases hv with rfl | rfl
      · rfl
      · exact encG_one x) (fun x y : FileV => cmpP x.path y.path) swoF 24 #[] b 0 c fs.toArray w eg hcmp hH hbs (by show fs.length < _; omega)).mono fun e w' ⟨he, d', n, os, hp, hs, hw⟩ => ?_
    obtain ⟨gs, rfl⟩ : ∃ gs : List FileV, gs.toArray = d' := ⟨d'.toList, by simp⟩
    have hsz : gs.length = fs.length := hp.1
    have hpf : gs.Perm fs := by
      have h := hp.2.2
      have e1 : (gs.toArray.extract 0 fs.toArray.size).toList = gs := by simp [← hsz]
      have e2 : (fs.toArray.extract 0 fs.toArray.size).toList = fs := by simp
      rwa [e1, e2] at h
    have hgv : ∀ x ∈ gs, x.val.oneCell' = true := fun x hx => hv x (hpf.mem_iff.1 hx)
    have hgn : (gs.map (·.path)).Nodup := (hpf.map _).nodup_iff.2 hn
    refine ⟨_, putCells id 0 (flatK encG 2 gs.toArray) cur, he, ?_, ?_, gs, hpf, ?_, ?_, ?_⟩
    · rw [hw]
      show ((putRow id (Sort.ahead w n) b 0 (flatK encG 2 gs.toArray)).heap ++ os)[b]? = _
      rw [Array.getElem?_append_left (by simpa [putRow, mapBlock, Sort.ahead] using hbs)]
      simp [putRow, mapBlock, Sort.ahead, Array.getElem?_modify, hb, onCells]
    · rw [hw]
      refine ⟨rfl, rfl, rfl, by simp [sortWorldK, putRowK, grow, putRow, mapBlock, Sort.ahead], fun k hk hne => ?_⟩
      have : b ≠ k := fun e => hne (by rw [e])
      show ((putRow id (Sort.ahead w n) b 0 (flatK encG 2 gs.toArray)).heap ++ os)[k]? = _
      rw [Array.getElem?_append_left (by simpa [putRow, mapBlock, Sort.ahead] using hk)]
      simp [putRow, mapBlock, Sort.ahead, Array.getElem?_modify, this]
    · refine List.pairwise_iff_getElem.2 fun i j hi hj hij => ?_
      have h := hs i j (Nat.zero_le _) hij (by show j < fs.length; omega)
      rw [ltF, decide_eq_false_iff_not, getElem!_pos gs.toArray i (by simpa using hi), getElem!_pos gs.toArray j (by simpa using hj)] at h
      simp only [List.getElem_toArray] at h
      refine less_tri h fun e => ?_
      have h9 := List.pairwise_iff_getElem.1 hgn i j (by simpa using hi) (by simpa using hj) hij
      rw [List.getElem_map, List.getElem_map] at h9
      exact h9 e.symm
    · simp [putCells, h3]
    · have h5 := take_putCellsV cur (flatK encG 2 gs.toArray) (by rw [size_flatK, h3]; show gs.length * 2 ≤ _; rw [hsz]; exact Nat.mul_le_mul_right 2 h1)
      rw [flatK2, hG _ hgv, size_flatK] at h5
      rw [← hsz]
      exact h5
  · refine ⟨[RowC 42 2 (.slice (some ⟨b, 0, none⟩) fs.length c) fs.length (gs.flatMap encF)], ⟨gs, hp, hq, rfl⟩, fun g hg => ?_⟩
    subst hH
    refine all_imp (fun h e => ?_) hg
    have := RowC.of_pt (E := 42) (sz := 2) (n := fs.length) h1 h2 hs h e
    rwa [ht] at this
end Go.Proofs.Ytmnehdpclnhmbaa
