
/- mudlarklaw27.MergeGrows: for every input it returns true. -/
import Derived.Test.YtmnehdpclnhmbaaNu
import Derived.Test.YtmnehdpclnhmbaaRu
namespace Go.Proofs.Ytmnehdpclnhmbaa
open Go.RowKit Go.Maps Sx

abbrev DeadP (N : List PartM) : Ch := all (N.map fun x => RowC 3 1 x.dv x.dead.length (x.dead.flatMap encJ))
abbrev FilP (N : List PartM) : Ch := all (N.map fun x => FilZ x.fv x.files)
theorem deadP_in {r : Hp} : ∀ {N : List PartM} {g : Hp}, DeadP N g → sub g r → ∀ x ∈ N, Els r 1 encJ x.dv x.dead
  | [], _, _, _, _, hz => by cases hz
  | y :: N, g, h, hs, z, hz => by
    obtain ⟨g1, g2, dd, rfl, h1, h2⟩ := h
    rcases List.mem_cons.1 hz with rfl | hz
    · exact ⟨fun _ => rfl, h1.sl (fun b o e => hs b o (un_left e))⟩
    · exact deadP_in h2 (fun b o e => hs b o (un_right dd e)) z hz
theorem filP_in {r : Hp} : ∀ {N : List PartM} {g : Hp}, FilP N g → sub g r → ∀ x ∈ N, Files r x.fv x.files
  | [], _, _, _, _, hz => by cases hz
  | y :: N, g, h, hs, z, hz => by
    obtain ⟨g1, g2, dd, rfl, h1, h2⟩ := h
    rcases List.mem_cons.1 hz with rfl | hz
    · exact filZ_files h1 (fun b o e => hs b o (un_left e))
    · exact filP_in h2 (fun b o e => hs b o (un_right dd e)) z hz
theorem parts_own {r g1 g2 g3 : Hp} {v : Value} {N : List PartM} {n : Nat} (hn : N.length = n) (h1 : RowC 36 2 v n (N.flatMap encMp) g1) (s1 : sub g1 r) (h2 : DeadP N g2) (s2 : sub g2 r) (h3 : FilP N g3) (s3 : sub g3 r) : PartsR r v N := by
  subst hn
  exact ⟨⟨fun _ => rfl, h1.sl s1⟩, fun x hx => ⟨filP_in h3 s3 x hx, deadP_in h2 s2 x hx⟩⟩
/-- The rows of a plan are the new parts' dead ones; the new part has none. -/
theorem dead_next {N : List PartM} {Z : List RowI} (hl : Z.length = N.length) {v4 : Value} {Y : List FileV} (h : Hp) (e : RowsP Z h) : DeadP (nextV N Z ++ [⟨v4, .slice none 0 0, Y, []⟩]) h := by
  have h1 : DeadP (nextV N Z) h := by
    have : ((nextV N Z).map fun x => RowC 3 1 x.dv x.dead.length (x.dead.flatMap encJ)) = Z.map fun z => RowC 3 1 z.val z.nums.length (z.nums.flatMap encJ) := by
      clear e
      induction N generalizing Z with
      | nil =>
        obtain rfl : Z = [] := List.length_eq_zero_iff.1 hl
        rfl
      | cons x N ih =>
        cases Z with
        | nil => cases hl
        | cons z Z =>
          rw [List.map_cons, ← ih (by simpa using hl)]
          rfl
    unfold DeadP
    rw [this]
    exact e
  show all ((nextV N Z ++ [(⟨v4, .slice none 0 0, Y, []⟩ : PartM)]).map fun x => RowC 3 1 x.dv x.dead.length (x.dead.flatMap encJ)) h
  rw [List.map_append]
  exact all_app.2 ⟨h, emp, emp_dj.symm, un_emp.symm, h1, emp, emp, emp_dj, un_emp.symm, RowC.nil _ _, rfl⟩
theorem filP_next {N : List PartM} {Z : List RowI} (hl : Z.length = N.length) {v4 : Value} {Y : List FileV} (h : Hp) (e : all [FilP N, FilZ v4 Y] h) : FilP (nextV N Z ++ [⟨v4, .slice none 0 0, Y, []⟩]) h := by
  have : ((nextV N Z).map fun x => FilZ x.fv x.files) = N.map fun x => FilZ x.fv x.files := by
    clear e
    induction N generalizing Z with
    | nil => rfl
    | cons x N ih =>
      cases Z with
      | nil => cases hl
      | cons z Z =>
        rw [List.map_cons, ← ih (Z := Z) (by simpa using hl)]
        rfl
  obtain ⟨g1, g2, dd, rfl, h1, h2⟩ := e
  show all ((nextV N Z ++ [(⟨v4, .slice none 0 0, Y, []⟩ : PartM)]).map fun x => FilZ x.fv x.files) _
  rw [List.map_append, this]
  exact all_app.2 ⟨g1, g2, dd, rfl, h1, h2⟩
theorem encMp_set {A B : List PartM} {x : PartM} {v : Value} {d : List Int} : ((A ++ x :: B).flatMap encMp).set (A.length * 2 + 1) v = (A ++ ⟨x.fv, v, x.files, d⟩ :: B).flatMap encMp := by
  have e : (A.flatMap encMp).length = A.length * 2 := flat_len (sz := 2) (enc := encMp) (fun _ => rfl) A
  rw [List.flatMap_append, List.flatMap_append, List.set_append_right _ _ (by omega), e, show A.length * 2 + 1 - A.length * 2 = 1 by omega]
  rfl
theorem parts_bounds {ps : List PartM} (h : partsOk (ps.map PartM.key) = true) : ∀ x ∈ ps, ∀ f ∈ x.files, f.path.length ≤ 1000000 ∧ f.data.length ≤ 10000000 := fun x hx => by
  have h1 := (partsOk_iff.1 h).1 x.key (List.mem_map_of_mem hx)
  unfold oneOk at h1
  rw [Bool.and_eq_true] at h1
  exact (files_bounds h1.2).1
theorem planK_none {ps : List PartK} {l : List ChK} {e : Nat} (ho : partsOk ps = true) (h : applyK (liveK ps) l = (none, e)) : planK ps l = (none, e) := by
  unfold planK
  cases hb : batchOk l
  · unfold applyK at h
    rw [hb, Bool.and_false] at h
    simp only [Bool.false_eq_true, if_false, Prod.mk.injEq, true_and] at h
    subst h
    rw [ho]; rfl
  · rw [ho, h]; rfl
theorem planK_apply {ps : List PartK} {l : List ChK} {e : Nat} {B : List KeyM} (ho : partsOk ps = true) (h : applyK (liveK ps) l = (some B, e)) : batchOk l = true ∧ (behindK (liveK ps) l).length ≤ 4000 ∧ B = behindK (liveK ps) l ∧ e = 0 := by
  unfold applyK at h
  rw [(live_ok ho).2.2, Bool.true_and] at h
  cases hb : batchOk l
  · rw [hb] at h
    cases h
  · rw [hb, if_pos rfl] at h
    by_cases hc : (behindK (liveK ps) l).length ≤ 4000
    · rw [if_pos hc] at h
      simp only [Prod.mk.injEq, Option.some.injEq] at h
      exact ⟨rfl, hc, h.1.symm, h.2.symm⟩
    · rw [if_neg hc] at h
      cases h
theorem take_nextV2 {X : List PartM} {Z : List RowI} (h : Z.length = X.length) {k : Nat} (hk : k < X.length) {x : PartM} {z : RowI} (hx : X.getD k default = x) (hz : Z.getD k default = z) : (nextV X Z).take (k + 1) = (nextV X Z).take k ++ [⟨x.fv, z.val, x.files, z.nums⟩] := by
  rw [take_getD (d := default) (by rw [nextV_len h]; exact hk), nextV_get h hk, hx, hz]
def sizeR : List ChR → Nat
  | [] => 0
  | x :: l => sizeC x.chs + sizeR l
theorem sizeR_app : ∀ l m : List ChR, sizeR (l ++ m) = sizeR l + sizeR m
  | [], m => by simp [sizeR]
  | x :: l, m => by simp only [List.cons_append, sizeR, sizeR_app l m]; omega
theorem sizeR_mem {x : ChR} : ∀ {l : List ChR}, x ∈ l → sizeC x.chs ≤ sizeR l
  | y :: l, h => by
    rcases List.mem_cons.1 h with rfl | h
    · simp only [sizeR]; omega
    · have := sizeR_mem h; simp only [sizeR]; omega
end Go.Proofs.Ytmnehdpclnhmbaa
