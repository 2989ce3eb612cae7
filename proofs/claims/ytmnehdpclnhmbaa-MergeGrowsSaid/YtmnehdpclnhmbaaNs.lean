
/- merge.Plan: its contract, whole; the chapter's example. -/
import Derived.Test.YtmnehdpclnhmbaaNr
import Derived.Test.YtmnehdpclnhmbaaNc
namespace Go.Proofs.Ytmnehdpclnhmbaa
open Go.RowKit Go.Maps Sx

theorem mplan_any (r : Hp) (v vl : Value) (X : List PartM) (cs : List ChV) (hv : PartsR r v X) (hl : Chs r vl cs) (hn : X.length ≤ 1000000) (hm : cs.length ≤ 1000000) (hp : ∀ x ∈ X, ∀ f ∈ x.files, f.path.length ≤ 1000000 ∧ f.data.length ≤ 10000000) (hcp : ∀ c ∈ cs, c.path.length ≤ 1000000 ∧ c.data.length ≤ 10000000) :
    Tri Try.prog r 7 [v, vl] [] fun w H => match planK (X.map PartM.key) (cs.map chK) with
      | (some (rows, fresh), _) => ∃ a c a2 c2, w = .tuple #[.slice a rows.length c, .slice a2 fresh.length c2, .int .i64 0] ∧ H = [RowsC (.slice a rows.length c) rows, FilC (.slice a2 fresh.length c2) fresh]
      | (none, e) => w = .tuple #[.slice none 0 0, .slice none 0 0, .int .i64 e] ∧ H = [] := by
  by_cases hno : (partsOk (X.map PartM.key) && batchOk (cs.map chK)) = true
  · rw [Bool.and_eq_true] at hno
    obtain ⟨ho, hb⟩ := hno
    by_cases hbig : (behindK (liveK (X.map PartM.key)) (cs.map chK)).length ≤ 4000
    · refine (mplanG_any r v vl X cs hv hl hn hm hp hcp ho hb hbig _ _ _ rfl rfl rfl).mono ?_
      rintro w H ⟨rows, fresh, e, h⟩
      rw [e]
      exact h
    · refine (mplanB_any r v vl X cs hv hl hn hm hp hcp ho hb hbig).mono ?_
      rintro w H h
      have e : planK (X.map PartM.key) (cs.map chK) = (none, 3) := by
        unfold planK applyK
        rw [ho, hb, (live_ok ho).2.2]
        simp only [Bool.and_self, if_true, if_neg hbig]
      rw [e]
      exact h
  · rw [Bool.not_eq_true] at hno
    refine (mplanE_any r v vl X cs hv hl hn hm hp hcp hno).mono ?_
    rintro w H h
    have e : planK (X.map PartM.key) (cs.map chK) = (none, 2) := by
      unfold planK
      rw [hno]; rfl
    rw [e]
    exact h
theorem plan_ex : planK [⟨[([97], []), ([98], [])], []⟩] [([98], (false, [120])), ([99], (false, []))] = (some ([[1]], [([98], [120]), ([99], [])]), 0) := by decide +kernel
end Go.Proofs.Ytmnehdpclnhmbaa
