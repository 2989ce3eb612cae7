
/- batch.Nothing: its contract. -/
import Derived.Test.YtmnehdpclnhmbaaGreatBl
namespace Go.Proofs.YtmnehdpclnhmbaaGreat
open Go.RowKit Sx

def nothingK (fs : List KeyM) (l : List ChK) : Bool := match applyK fs l with
  | (some b, _) => decide ((diffK fs b).length = 0)
  | (none, _) => false
theorem applyK_some {fs ks : List KeyM} {l : List ChK} {e : Nat} (h : applyK fs l = (some ks, e)) : filesOkK fs = true ∧ batchOk l = true ∧ ks = behindK fs l ∧ ks.length ≤ 4000 ∧ filesOkK ks = true ∧ e = 0 := by
  unfold applyK at h
  by_cases h1 : (filesOkK fs && batchOk l) = true
  · rw [if_pos h1] at h
    rw [Bool.and_eq_true] at h1
    by_cases h2 : (behindK fs l).length ≤ 4000
    · rw [if_pos h2] at h
      simp only [Prod.mk.injEq, Option.some.injEq] at h
      obtain ⟨rfl, rfl⟩ := h
      exact ⟨h1.1, h1.2, rfl, h2, behind_ok h1.1 h1.2 h2, rfl⟩
    · rw [if_neg h2] at h
      cases h
  · rw [if_neg h1] at h
    cases h
theorem applyK_none {fs : List KeyM} {l : List ChK} {e : Nat} (h : applyK fs l = (none, e)) : e = 2 ∨ e = 3 := by
  unfold applyK at h
  split at h
  · split at h
    · cases h
    · simp only [Prod.mk.injEq, true_and] at h; exact .inr h.symm
  · simp only [Prod.mk.injEq, true_and] at h; exact .inl h.symm
theorem pathOk_len {p : Pa} (h : pathOk p = true) : p.length ≤ 200 := by
  unfold pathOk at h
  simp only [Bool.and_eq_true, decide_eq_true_eq] at h
  exact h.1.2
set_option maxRecDepth 10000 in
set_option maxHeartbeats 4000000 in
theorem nothing_any (r : Hp) (v vl : Value) (fs : List FileV) (cs : List ChV) (hv : Files r v fs) (hl : Chs r vl cs) (hn : fs.length ≤ 1000000) (hm : cs.length ≤ 1000000) (hfp : ∀ f ∈ fs, f.path.length ≤ 1000000 ∧ f.data.length ≤ 10000000) (hcp : ∀ c ∈ cs, c.path.length ≤ 1000000 ∧ c.data.length ≤ 10000000) :
    Tri Tryz.prog r 14 [v, vl] [] fun w H => w = .bool (nothingK (fs.map FileV.key) (cs.map chK)) ∧ H = [] := by
  refine Tri.free2 fun R HR => ?_
  have hap := apply_any r v vl fs cs hv hl hn hm hfp hcp
  unfold nothingK at HR
  obtain ⟨⟨o, e⟩, ho⟩ : ∃ x, applyK (fs.map FileV.key) (cs.map chK) = x := ⟨_, rfl⟩
  rw [ho] at hap HR
  cases o with
  | none =>
    dsimp only at hap HR
    have he := applyK_none ho
    have hdf := fun r' (h : sub r r') => diff_any r' v (.slice none 0 0) fs [] ⟨hv.1.mono h, fun f hf => (hv.2 f hf).mono h⟩ ⟨⟨fun _ => rfl, Sl.nil _ _⟩, fun f hf => by cases hf⟩ hn (Nat.zero_le _) hfp (fun f hf => by cases hf)
    have he0 : ¬ (e : Int) = 0 := by omega
    cases hq : filesOkK (fs.map FileV.key) && filesOkK (([] : List FileV).map FileV.key)
    · simp only [hq, Bool.false_eq_true, if_false] at hdf
      refine fn_of_sw Tryz.func14 rfl _ rfl ?_; refine aen Tryz.ntmps14 ?_
      repeat' (first | (refine acl Tryz.func9 ?_; refine acr (hap) ?_; rintro v' H' ⟨rfl, rfl⟩; all_goals refine apl ?_) | (refine acl Tryz.func34 ?_; refine acr (hdf _ (fun _ _ h => h)) ?_; rintro v' H' ⟨rfl, rfl⟩; all_goals refine apl ?_) | (exfalso; first | contradiction | omega) | refine aw0 ?_ | (refine ap2 ?_ ?_ <;> try intro h) | refine aw1 ?_ | (refine abx ?_; intro bb) | (refine abz ?_; intro bz) | (refine ahv ?_; intro v' hv') | (refine aac ?_; intro ac cc) | refine aw2 ?_ | (refine ap4 ?_ ?_ <;> try intro h) | apply True.intro)
      ((with_reducible apply fp_ret); exact res_1 rfl rfl)
      exact HR.out _ _ _ [] Takes.all ⟨rfl, rfl⟩
    · simp only [hq, if_true] at hdf
      refine fn_of_sw Tryz.func14 rfl _ rfl ?_; refine aen Tryz.ntmps14 ?_
      repeat' (first | (refine acl Tryz.func9 ?_; refine acr (hap) ?_; rintro v' H' ⟨rfl, rfl⟩; all_goals refine apl ?_) | (refine acl Tryz.func34 ?_; refine acr (hdf _ (fun _ _ h => h)) ?_; rintro v' H' ⟨a2, c2, rfl, rfl⟩; all_goals refine apl ?_) | (exfalso; first | contradiction | omega) | refine aw0 ?_ | (refine ap2 ?_ ?_ <;> try intro h) | refine aw1 ?_ | (refine abx ?_; intro bb) | (refine abz ?_; intro bz) | (refine ahv ?_; intro v' hv') | (refine aac ?_; intro ac cc) | refine aw2 ?_ | (refine ap4 ?_ ?_ <;> try intro h) | apply True.intro)
      ((with_reducible apply fp_ret); exact res_1 rfl rfl)
      exact HR.out _ _ _ [] Takes.all ⟨rfl, rfl⟩
  | some ks =>
    dsimp only at hap HR
    obtain ⟨h1, h2, h3, h4, h5, rfl⟩ := applyK_some ho
    have hdf := fun r' w' (h : sub r r') (h6 : ∃ Z : List FileV, Z.map FileV.key = ks ∧ Files r' w' Z) => (show Tri Tryz.prog r' 34 [v, w'] [] fun u H => ∃ a c, u = .tuple #[.slice a (diffK (fs.map FileV.key) ks).length c, .int .i64 0] ∧ H = [ChC (.slice a (diffK (fs.map FileV.key) ks).length c) (diffK (fs.map FileV.key) ks)] from by
      obtain ⟨Z, hZ, hF⟩ := h6
      have hZl : Z.length = ks.length := by rw [← hZ, List.length_map]
      have h7 := diff_any r' v w' fs Z ⟨hv.1.mono h, fun f hf => (hv.2 f hf).mono h⟩ hF hn (by omega) hfp (fun f hf => by
        have hg := (filesOkK_iff.1 h5).2.1 f.key (by rw [← hZ]; exact List.mem_map_of_mem hf)
        have h8 := pathOk_len hg.1
        have h9 := hg.2
        exact ⟨by have : f.path.length ≤ 200 := h8; omega, by have : f.data.length ≤ 1048576 := h9; omega⟩)
      rw [hZ, h1, h5] at h7
      exact h7)
    refine fn_of_sw Tryz.func14 rfl _ rfl ?_; refine aen Tryz.ntmps14 ?_
    repeat' (first | (refine acl Tryz.func9 ?_; refine acr (hap) ?_; rintro v' H' ⟨a1, c1, rfl, rfl⟩; all_goals refine apl ?_) | ((with_reducible refine swo_isCall 34 ?_); (with_reducible apply kx_lendC (A := FilC (.slice a1 ks.length c1) ks)); (exact atk); intro r2 g2 hr2 hg2 hA2; (refine acl Tryz.func34 ?_; refine acr (hdf r2 _ hr2 (filC_files hA2 hg2)) ?_; rintro v' H' ⟨a2, c2, rfl, rfl⟩; all_goals refine apl ?_)) | (exfalso; first | contradiction | omega) | refine aw0 ?_ | (refine ap2 ?_ ?_ <;> try intro h) | refine aw1 ?_ | (refine abx ?_; intro bb) | (refine abz ?_; intro bz) | (refine ahv ?_; intro v' hv') | (refine aac ?_; intro ac cc) | refine aw2 ?_ | (refine ap4 ?_ ?_ <;> try intro h) | apply True.intro)
    all_goals
      ((with_reducible apply fp_ret); exact res_1 rfl rfl)
      exact HR.out _ _ _ [] Takes.all ⟨by first | rfl | (congr 1; rw [decide_eq_decide]; omega), rfl⟩
end Go.Proofs.YtmnehdpclnhmbaaGreat
