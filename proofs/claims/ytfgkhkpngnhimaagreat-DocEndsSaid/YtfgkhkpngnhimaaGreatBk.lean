/- Right documents: their paths rise, so each is found at its number. No program. -/
import Derived.Test.YtfgkhkpngnhimaaGreatRtp
namespace Go.Proofs.YtfgkhkpngnhimaaGreat
open Go.RowKit Sx

theorem ord_all : ∀ (ps : List (List UInt8)) (e : List UInt8), ordOk e ps = true → (∀ p ∈ ps, e < p) ∧ ps.Pairwise (· < ·)
  | [], _, _ => ⟨fun _ h => (by cases h), List.Pairwise.nil⟩
  | p :: ps, e, h => by
    rw [show ordOk e (p :: ps) = (pathOk p && !(Op.bytesLess p e || p == e) && ordOk p ps) from rfl, less_not, bytesLess_eq] at h
    simp only [Bool.and_eq_true, decide_eq_true_eq] at h
    obtain ⟨h1, h2⟩ := ord_all ps p h.2
    refine ⟨fun q hq => ?_, List.Pairwise.cons h1 h2⟩
    rcases List.mem_cons.1 hq with rfl | hq
    · exact h.1.2
    · exact List.lt_trans h.1.2 (h1 q hq)
theorem find_at {ds : List DocV} (h : ordOk [] (ds.map (·.path)) = true) {k : Nat} (hk : k < ds.length) : idx (ds.findIdx? fun d => decide (d.path = (ds.getD k default).path)) = k := by
  have hp := (ord_all _ _ h).2
  rw [List.pairwise_map] at hp
  have e : ds.findIdx? (fun d => decide (d.path = (ds.getD k default).path)) = some k := by
    rw [List.findIdx?_eq_some_iff_getElem]
    refine ⟨hk, by simp [hk], fun j hj => ?_⟩
    have := List.pairwise_iff_getElem.1 hp j k (by omega) hk hj
    simp only [decide_eq_true_eq, List.getD_eq_getElem?_getD, List.getElem?_eq_getElem hk, Option.getD_some]
    intro c
    rw [c] at this
    exact List.lt_irrefl _ this
  rw [e]
  rfl
theorem docs_of_files {fs : List FileV} (h : filesOk fs = true) : docsOk (fs.map docOf) = true ∧ ∀ d ∈ fs.map docOf, d.sum < 4294967296 := by
  unfold filesOk at h
  simp only [Bool.and_eq_true, decide_eq_true_eq, Bool.not_eq_true', List.any_eq_false] at h
  obtain ⟨⟨h1, h2⟩, h3⟩ := h
  refine ⟨?_, fun d hd => ?_⟩
  · unfold docsOk
    simp only [Bool.and_eq_true, decide_eq_true_eq, Bool.not_eq_true', List.any_eq_false, List.length_map]
    refine ⟨⟨h1, fun d hd => ?_⟩, by rw [List.map_map]; exact h3⟩
    obtain ⟨f, hf, rfl⟩ := List.mem_map.1 hd
    have := h2 f hf
    simp only [bigF, decide_eq_true_eq] at this
    have e1 : decide ((docOf f).lang ≠ langOf (docOf f).path) = false := by simp [docOf]
    have e2 : decide ((docOf f).size < 0) = false := decide_eq_false (show ¬ ((f.data.length : Int) < 0) by omega)
    have e3 : decide (1048576 < (docOf f).size) = false := decide_eq_false (show ¬ ((1048576 : Int) < (f.data.length : Int)) by omega)
    unfold docBad
    rw [e1, e2, e3]
    simp
  · obtain ⟨f, hf, rfl⟩ := List.mem_map.1 hd
    exact inv32_lt (crcAll_lt _ _ (by omega))
end Go.Proofs.YtfgkhkpngnhimaaGreat
