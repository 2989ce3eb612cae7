
/- merge.Lives: its contract. -/
import Derived.Test.YtmnehdpclnhmbaaNb
namespace Go.Proofs.Ytmnehdpclnhmbaa
open Go.RowKit Go.Maps Sx

set_option maxRecDepth 10000 in
set_option maxHeartbeats 4000000 in
theorem mlives_any (r : Hp) (x : PartM) (hx : PartR r x) (hd : ∀ d ∈ x.dead, 0 ≤ d ∧ d ≤ 1000000000) : Tri Try.prog r 10 [.agg (encMp x).toArray] [] fun w H => w = .bool (livesK x.key) ∧ H = [] := by
  refine Tri.free2 fun R HR => ?_
  obtain ⟨fv, dv, fs, dead⟩ := x
  obtain ⟨hxf, hxd⟩ := hx
  dsimp only at hxf hxd hd
  show Tri _ _ _ [.agg [fv, dv].toArray] _ _
  have hfe := hxf.1
  have hf1 := hfe.one
  have hd1 := hxd.one
  obtain ⟨V, hV⟩ : ∃ V, livV dead 0 fs = V := ⟨_, rfl⟩
  have hlk : livesK (⟨fv, dv, fs, dead⟩ : PartM).key = decide (0 < V.length) := by
    have h := livV_liv (⟨fv, dv, fs, dead⟩ : PartM)
    dsimp only at h
    unfold livesK
    rw [← h, hV]
    cases V <;> simp
  rw [hlk] at HR
  have hsq := fun bw bq => living_seq r bw bq dead.length fv dv fs dead hxf
  rw [hV] at hsq
  refine fn_of_sw Try.func10 rfl _ rfl ?_; refine aen Try.ntmps10 ?_
  repeat' (first | ((with_reducible apply kx_box); rfl; (exact qcl); intro b1; (refine apk ?_)) | ((with_reducible apply kx_alloc (E := 4)); exact ty_zero; (exact qcl); intro b2; (refine apk ?_)) | (refine acl Try.func20 ?_; refine acr (mof_any r fv dv dead hxd fs hfe hd) ?_; rintro v' H' ⟨bq, rfl, rfl⟩; all_goals refine apl ?_) | (refine acl Try.func21 ?_; refine acr (mliving_any r fv dv fs dead bq hfe hxd) ?_; rintro v' H' ⟨bw, rfl, rfl⟩; all_goals refine apl ?_) | (exfalso; first | contradiction | omega) | refine aw0 ?_ | (refine ap2 ?_ ?_ <;> try intro h) | refine aw1 ?_ | (refine abx ?_; intro bb) | (refine abz ?_; intro bz) | (refine ahv ?_; intro v' hv') | (refine aac ?_; intro ac cc) | refine aw2 ?_ | (refine ap4 ?_ ?_ <;> try intro h) | apply True.intro)
  refine sw_range rfl (goesOf Try.func47 (by kernel_rfl) rfl) (hsq bw bq) (by (exact atks)) (fun _ => rfl)
    (fun j H => j = 0 ∧ ∃ G, Takes [pt b2 (.cells [.bool false].toArray 4 (0, 0))] H G)
    (fun c j H => c = .ret ∧ 0 < V.length ∧ ∃ G, Takes [pt b2 (.cells [.bool true].toArray 4 (0, 0))] H G) ?_ ?_ ?_ ?_
  · exact ⟨rfl, _, by (exact atks)⟩
  · rintro kk i hi H ⟨rfl, G, hp⟩
    refine sw_takeG hp ?_
    clear hp
    refine sw_pars2 ?_
    (refine apk ?_)
    refine then2_mk ?_
    (refine apk ?_)
    repeat' (first | (exfalso; first | contradiction | omega) | refine aw0 ?_ | (refine ap2 ?_ ?_ <;> try intro h) | refine aw1 ?_ | (refine abx ?_; intro bb) | (refine abz ?_; intro bz) | (refine ahv ?_; intro v' hv') | (refine aac ?_; intro ac cc) | refine aw2 ?_ | (refine ap4 ?_ ?_ <;> try intro h) | apply True.intro)
    exact ⟨rfl, by omega, _, by (exact atks)⟩
  · rintro H ⟨h0, G, hp⟩
    refine sw_takeG hp ?_
    clear hp
    repeat' (first | (exfalso; first | contradiction | omega) | refine aw0 ?_ | (refine ap2 ?_ ?_ <;> try intro h) | refine aw1 ?_ | (refine abx ?_; intro bb) | (refine abz ?_; intro bz) | (refine ahv ?_; intro v' hv') | (refine aac ?_; intro ac cc) | refine aw2 ?_ | (refine ap4 ?_ ?_ <;> try intro h) | apply True.intro)
    ((with_reducible apply fp_ret); exact res_c rfl ty_agg rfl (by (exact ard)))
    exact HR.out _ _ _ [] Takes.all ⟨by rw [decide_eq_false (by omega)], rfl⟩
  · rintro c i H hi ⟨rfl, h0, G, hp⟩
    refine sw_takeG hp ?_
    clear hp
    repeat' (first | (exfalso; first | contradiction | omega) | refine aw0 ?_ | (refine ap2 ?_ ?_ <;> try intro h) | refine aw1 ?_ | (refine abx ?_; intro bb) | (refine abz ?_; intro bz) | (refine ahv ?_; intro v' hv') | (refine aac ?_; intro ac cc) | refine aw2 ?_ | (refine ap4 ?_ ?_ <;> try intro h) | apply True.intro)
    ((with_reducible apply fp_ret); exact res_c rfl ty_agg rfl (by (exact ard)))
    exact HR.out _ _ _ [] Takes.all ⟨by rw [decide_eq_true h0], rfl⟩
end Go.Proofs.Ytmnehdpclnhmbaa
