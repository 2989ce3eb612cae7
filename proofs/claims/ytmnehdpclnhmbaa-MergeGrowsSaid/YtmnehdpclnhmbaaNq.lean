
/- merge.Plan where all is right (under way). -/
import Derived.Test.YtmnehdpclnhmbaaNo
namespace Go.Proofs.Ytmnehdpclnhmbaa
open Go.RowKit Go.Maps Sx

theorem live_bounds {X : List PartM} (ho : partsOk (X.map PartM.key) = true) (hp : ∀ x ∈ X, ∀ f ∈ x.files, f.path.length ≤ 1000000 ∧ f.data.length ≤ 10000000) {Z : List FileV} (hZ : Z.map FileV.key = liveK (X.map PartM.key)) : (∀ f ∈ Z, f.path.length ≤ 1000000 ∧ f.data.length ≤ 10000000) ∧ Z.length ≤ 4000 := by
  obtain ⟨h1, h2, h3⟩ := live_ok ho
  constructor
  · intro f hf
    have h4 : f.key ∈ liveK (X.map PartM.key) := hZ ▸ List.mem_map_of_mem hf
    have h5 := (h2 _).1 h4
    rw [← livX_key] at h5
    obtain ⟨g, hg, e⟩ := List.mem_map.1 h5
    obtain ⟨x, hx, hgx⟩ := List.mem_flatMap.1 hg
    obtain ⟨y, hy, rfl⟩ := List.mem_map.1 hgx
    have h6 := hp x hx _ (livV_mem hy)
    have e1 : y.2.path = f.path := congrArg Prod.fst e
    have e2 : y.2.data = f.data := congrArg Prod.snd e
    rwa [e1, e2] at h6
  · have h4 := congrArg List.length hZ
    rw [List.length_map] at h4
    rw [h4]
    exact (filesOkK_iff.1 h3).1
set_option maxRecDepth 10000 in
set_option maxHeartbeats 8000000 in
theorem mplanB_any (r : Hp) (v vl : Value) (X : List PartM) (cs : List ChV) (hv : PartsR r v X) (hl : Chs r vl cs) (hn : X.length ≤ 1000000) (hm : cs.length ≤ 1000000) (hp : ∀ x ∈ X, ∀ f ∈ x.files, f.path.length ≤ 1000000 ∧ f.data.length ≤ 10000000) (hcp : ∀ c ∈ cs, c.path.length ≤ 1000000 ∧ c.data.length ≤ 10000000) (ho : partsOk (X.map PartM.key) = true) (hb : batchOk (cs.map chK) = true) (hbig : ¬ (behindK (liveK (X.map PartM.key)) (cs.map chK)).length ≤ 4000) :
    Tri Try.prog r 7 [v, vl] [] fun w H => w = .tuple #[.slice none 0 0, .slice none 0 0, .int .i64 3] ∧ H = [] := by
  refine Tri.free2 fun R HR => ?_
  have hmr := mright_any r v X hv hn fun x hx f hf => (hp x hx f hf).1
  have hbr := bright_any r vl cs hl hm fun c hc => (hcp c hc).1
  have hml := mlive_any r v X hv hn (fun x hx f hf => (hp x hx f hf).1) fun x hx f hf => by have := (hp x hx f hf).2; omega
  rw [ho] at hmr
  rw [hb] at hbr
  have hA : applyK (liveK (X.map PartM.key)) (cs.map chK) = (none, 3) := by
    unfold applyK
    rw [(live_ok ho).2.2, hb, if_neg hbig]; rfl
  have hap2 : ∀ (r' g : Hp) (u : Value), sub r r' → sub g r' → FilC u (liveK (X.map PartM.key)) g → Tri Try.prog r' 6 [u, vl] [] fun w H => w = .tuple #[.slice none 0 0, .int .i64 3] ∧ H = [] := fun r' g u h1 h2 h3 => by
    obtain ⟨Z, hZ, hF⟩ := filC_files h3 h2
    obtain ⟨hb1, hb2⟩ := live_bounds ho hp hZ
    have h := apply_any r' u vl Z cs hF ⟨hl.1.mono h1, fun x hx => (hl.2 x hx).mono h1⟩ (by omega) hm hb1 hcp
    rw [hZ, hA] at h
    exact h
  generalize liveK (X.map PartM.key) = K at *
  refine fn_of_sw Try.func7 rfl _ rfl ?_; refine aen Try.ntmps7 ?_
  repeat' (first | (refine acl Try.func16 ?_; refine acr (hmr) ?_; rintro v' H' ⟨rfl, rfl⟩; all_goals refine apl ?_) | (refine acl Try.func12 ?_; refine acr (hbr) ?_; rintro v' H' ⟨rfl, rfl⟩; all_goals refine apl ?_) | (refine acl Try.func9 ?_; refine acr (hml) ?_; rintro v' H' ⟨a1, c1, rfl, rfl⟩; all_goals refine apl ?_) | ((with_reducible refine swo_isCall 6 ?_); (with_reducible apply kx_lendC (A := FilC (.slice a1 K.length c1) K)); (exact atk); intro r' gg hr hgr hgg; (refine acl Try.func6 ?_; refine acr (hap2 r' gg _ hr hgr hgg) ?_; rintro v' H' ⟨rfl, rfl⟩; all_goals refine apl ?_)) | (exfalso; first | contradiction | omega) | refine aw0 ?_ | (refine ap2 ?_ ?_ <;> try intro h) | refine aw1 ?_ | (refine abx ?_; intro bb) | (refine abz ?_; intro bz) | (refine ahv ?_; intro v' hv') | (refine aac ?_; intro ac cc) | refine aw2 ?_ | (refine ap4 ?_ ?_ <;> try intro h) | apply True.intro)
  ((with_reducible apply fp_ret); exact res_3 rfl rfl rfl rfl)
  exact HR.out _ _ _ [] (by (exact atks)) ⟨rfl, rfl⟩
end Go.Proofs.Ytmnehdpclnhmbaa

namespace Go.Proofs.Ytmnehdpclnhmbaa
open Go.RowKit Go.Maps Sx

theorem files_bounds {Z : List FileV} (h : filesOkK (Z.map FileV.key) = true) : (∀ f ∈ Z, f.path.length ≤ 1000000 ∧ f.data.length ≤ 10000000) ∧ Z.length ≤ 4000 := by
  obtain ⟨h1, h2, _⟩ := filesOkK_iff.1 h
  rw [List.length_map] at h1
  refine ⟨fun f hf => ?_, h1⟩
  obtain ⟨h3, h4⟩ := h2 f.key (List.mem_map_of_mem hf)
  unfold pathOk at h3
  simp only [Bool.and_eq_true, decide_eq_true_eq] at h3
  have h5 : f.path.length ≤ 200 := h3.1.2
  have h6 : f.data.length ≤ 1048576 := h4
  omega
/-- Diff where both are owned. -/
theorem diffC_any (r : Hp) {K B : List KeyM} (hK : filesOkK K = true) (hB : filesOkK B = true) {g1 g2 : Hp} {u w : Value} (s1 : sub g1 r) (s2 : sub g2 r) (h1 : FilC u K g1) (h2 : FilC w B g2) :
    Tri Try.prog r 17 [u, w] [] fun x H => ∃ a c, x = .tuple #[.slice a (diffK K B).length c, .int .i64 0] ∧ H = [ChC (.slice a (diffK K B).length c) (diffK K B)] := by
  obtain ⟨Z, hZ, hF⟩ := filC_files h1 s1
  obtain ⟨Y, hY, hG⟩ := filC_files h2 s2
  subst hZ
  subst hY
  obtain ⟨b1, b2⟩ := files_bounds hK
  obtain ⟨b3, b4⟩ := files_bounds hB
  have h := diff_any r u w Z Y hF hG (by omega) (by omega) b1 b3
  rw [hK, hB] at h
  exact h
end Go.Proofs.Ytmnehdpclnhmbaa
